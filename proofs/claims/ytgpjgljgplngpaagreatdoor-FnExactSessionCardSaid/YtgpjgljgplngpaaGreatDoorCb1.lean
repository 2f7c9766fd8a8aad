/- The texts of traps. What is guessed. Words, and what is learnt. What the laws compare by. What the laws make, compare and count of rows and states. Rows copied. States copied. Cores copied. New guesses. Entries copied by the laws. No conditions but those each theorem bears. -/
import Derived.Test.YtgpjgljgplngpaaGreatDoorFa
import Derived.Test.YtgpjgljgplngpaaGreatDoorM4
import Derived.Test.YtgpjgljgplngpaaGreatDoorM3
import Derived.Test.YtgpjgljgplngpaaGreatDoorM5
set_option linter.unusedSimpArgs false
set_option linter.unusedVariables false
namespace Go.Proofs.YtgpjgljgplngpaaGreatDoor.AM
open Go
set_option maxHeartbeats 8000000
set_option maxRecDepth 100000
theorem sat_spec_l1In (a : Int) (b : Int) (c : Int)  : Sat Tryz.prog 114 [.int .i64 a, .int .i64 b, .int .i64 c] [] (.bool (inR a b c)) [] := by
 have hX := trivial
 refine sat_mk [.tmp 6] 0 15 Tryz.call114 Tryz.func114 Tryz.ntmps114 rfl rfl rfl rfl rfl ?_
 refine zI [0, 1, 2] ?_
 refine zS [0, 1, 2] ?_
 intro ρ hL
 refine zA ?_
 intro K hK
 refine zL [0, 2, 10] ?_
 clear hL
 intro ρ hL
 refine grp_andN (v := ?v1) 3 rfl [] hL.2.2 rfl (fun hb K1 hK1 => ?run) (fun hb => skA (want := true) (b := _) (by rw [hb]; rfl) hL.2.2 rfl) (fun ρ hP hM => ?_)
 case run => exact zR1
 simp only [List.drop_succ_cons, List.drop_zero]
 clear hM hL
 have hL := hP
 clear hP
 try simp only [go_sem, simprocAttr, hL, hX]
 repeat' refine And.intro (by first | rfl | omega | (simp; done)) ?_
 refine zE [6] ?_
 clear hK K hL
 refine zR ?_
 try simp only [go_sem, simprocAttr]
 all_goals (simp [inR])
theorem sat_impl_in (a : Int) (b : Int) (c : Int)  : Sat Tryz.prog 139 [.int .i64 a, .int .i64 b, .int .i64 c] [] (.bool (inR a b c)) [] := by
 have hX := trivial
 refine sat_mk [.tmp 6] 0 15 Tryz.call139 Tryz.func139 Tryz.ntmps139 rfl rfl rfl rfl rfl ?_
 refine zI [0, 1, 2] ?_
 refine zS [0, 1, 2] ?_
 intro ρ hL
 refine zA ?_
 intro K hK
 refine zL [0, 2, 10] ?_
 clear hL
 intro ρ hL
 refine grp_andN (v := ?v1) 3 rfl [] hL.2.2 rfl (fun hb K1 hK1 => ?run) (fun hb => skA (want := true) (b := _) (by rw [hb]; rfl) hL.2.2 rfl) (fun ρ hP hM => ?_)
 case run => exact zR1
 simp only [List.drop_succ_cons, List.drop_zero]
 clear hM hL
 have hL := hP
 clear hP
 try simp only [go_sem, simprocAttr, hL, hX]
 repeat' refine And.intro (by first | rfl | omega | (simp; done)) ?_
 refine zE [6] ?_
 clear hK K hL
 refine zR ?_
 try simp only [go_sem, simprocAttr]
 all_goals (simp [inR])
theorem sat_spec_TrapText (a : Int)  : Sat Tryz.prog 105 [.int .i64 a] [] (.str (trapText a)) [] := by
 have hX := trivial
 refine sat_mk [.tmp 2] 0 10 Tryz.call105 Tryz.func105 Tryz.ntmps105 rfl rfl rfl rfl rfl ?_
 refine zI [0] ?_
 refine zS [0] ?_
 refine zSF [0, 5] (sat_spec_l1In _ _ _) ?_
 refine zC ?_ ?_
 ·intro c1
  refine zS [2] ?_
  refine zR ?_
  try simp only [go_sem, simprocAttr]
  all_goals (simp [trapText, c1])
 ·intro c1 ρ hL
  refine awl_skip ?_
  have ha : 0 ≤ a ∧ a < 6 := by simp [inR] at c1; omega
  repeat refine awl_seq ?_
  refine awl_regS _ rfl fun K hK => ?_
  try simp only [go_sem, simprocAttr, hL, hX, ha, trap_row ha]
  repeat' refine And.intro (by first | rfl | omega | (simp; done)) ?_
  refine hK _ _ (.mk (awl_live' [2] fun ρ hM => ?_))
  try simp only [go_sem, simprocAttr, hL, hX, ha, trap_row ha] at hM
  clear hK K hL
  revert ρ hM
  refine zR ?_
  try simp only [go_sem, simprocAttr]
  all_goals (simp [trapText, c1])
theorem sat_impl_TrapText (a : Int)  : Sat Tryz.prog 99 [.int .i64 a] [] (.str (trapText a)) [] := by
 have hX := trivial
 refine sat_mk [.tmp 2] 0 10 Tryz.call99 Tryz.func99 Tryz.ntmps99 rfl rfl rfl rfl rfl ?_
 refine zI [0] ?_
 refine zS [0] ?_
 refine zSF [0, 5] (sat_impl_in _ _ _) ?_
 refine zC ?_ ?_
 ·intro c1
  refine zS [2] ?_
  refine zR ?_
  try simp only [go_sem, simprocAttr]
  all_goals (simp [trapText, c1])
 ·intro c1 ρ hL
  refine awl_skip ?_
  have ha : 0 ≤ a ∧ a < 6 := by simp [inR] at c1; omega
  repeat refine awl_seq ?_
  refine awl_regS _ rfl fun K hK => ?_
  try simp only [go_sem, simprocAttr, hL, hX, ha, trap_row ha]
  repeat' refine And.intro (by first | rfl | omega | (simp; done)) ?_
  refine hK _ _ (.mk (awl_live' [2] fun ρ hM => ?_))
  try simp only [go_sem, simprocAttr, hL, hX, ha, trap_row ha] at hM
  clear hK K hL
  revert ρ hM
  refine zR ?_
  try simp only [go_sem, simprocAttr]
  all_goals (simp [trapText, c1])
theorem sat_spec_GuessOk (xs : List Int) (cap : Nat) (hb : xs.length ≤ 1099511627776) : Sat Tryz.prog 58 [.sl xs.length cap (ints xs)] [] (.bool (guessOk xs)) [] := by
 have hX := trivial
 refine sat_mk [.tmp 2] 0 19 Tryz.call58 Tryz.func58 Tryz.ntmps58 rfl rfl rfl rfl rfl ?_
 refine zI [0] ?_
 refine zS [0] ?_
 refine zS [0, 3] ?_
 intro ρ hL
 have e1 := hL
 refine awl_loopH (fun H0 n σ G => ∃ (i : Nat), n = xs.length - i ∧ (i ≤ xs.length) ∧ ((xs.take i).all (fun x => inR x (-1) 65535) = true) ∧ (liveE [0] σ ρ ∧ σ 3 = .int .i64 (i : Int)) ∧ G = H0) (fun H0 σ G => (xs.all (fun x => inR x (-1) 65535) = true) ∧ (liveE [0] σ ρ) ∧ G = H0) ((fun (i : Nat) => xs.length - i) 0) ?init1 (fun n ρ G hI => ?round1) (fun ρ G hJ => ?after1)
 case init1 => exact ⟨0, rfl, (Nat.zero_le _), (by simp), ⟨liveE_refl _ _, (hL.2)⟩, rfl⟩
 case round1 =>
  clear hL
  obtain ⟨i, hn, i1_0, i1_1, hL, hG⟩ := hI
  subst hG
  try simp only [go_sem, simprocAttr, e1, hX] at hL
  revert ρ hL
  refine zS [0, 3, 7] ?_
  refine zC ?_ ?_
  ·intro c1
   have hi1 : i < xs.length := by omega
   replace hX := And.intro hi1 hX
   intro ρ hL
   refine awl_skip (awl_seq (awl_block fun R1 hw1 hR1 => ?_))
   revert ρ hL
   refine zSF [0, 3, 15] (sat_spec_l1In _ _ _) ?_
   refine zC ?_ ?_
   ·intro c2
    refine zS [2] ?_
    refine zR ?_
    try simp only [go_sem, simprocAttr]
    all_goals ((try clear hR1); rw [guessOk, all_false_of (d := 0) hi1 (by simpa using c2), Bool.and_false])
   ·intro c2 ρ hL
    refine awl_skip (awl_nil (blk_normal (hR1 _ _ (.mk ?_))))
    have w1 : IntKind.i64.wrap ((i : Int) + 1) = ((i + 1 : Nat) : Int) := by rw [wrap64 (by omega)]; omega
    replace hX := And.intro w1 hX
    revert ρ hL
    refine zS [0, 3] ?_
    intro ρ hL
    refine awl_nil ?_
    refine loop_again _ ?meas ⟨i + 1, rfl, (by omega), (by exact all_take_succ (d := 0) hi1 i1_1 (by simpa using c2)), ⟨(by simp only [go_sem, simprocAttr, hL, hX, e1]), (hL.2)⟩, rfl⟩
    case meas => subst hn; omega
  ·intro c1 ρ hL
   refine awl_exit (loop_break ?_)
   exact ⟨(by exact all_of_take (by omega) i1_1), (by simp only [go_sem, simprocAttr, hL, hX, e1]), rfl⟩
 case after1 =>
  clear hL
  obtain ⟨j1_0, hL, hG⟩ := hJ
  subst hG
  try simp only [go_sem, simprocAttr, e1, hX] at hL
  revert ρ hL
  refine zS [2] ?_
  refine zR ?_
  try simp only [go_sem, simprocAttr]
  all_goals ((try clear hR1); rw [guessOk, j1_0, Bool.and_true]; simp; omega)
theorem sat_slices_IndexFunc_int_int (xs : List Int) (c : Nat) (g : FuncId) (p : Int → Bool) (hb : xs.length ≤ 1099511627776) (hg : ∀ x, Sat Tryz.prog g [.int .i64 x] [] (.bool (p x)) []) : Sat Tryz.prog 200 [.sl xs.length c (ints xs), .func g [] []] [] (.int .i64 (firstAt p xs 0)) [] := by
 have hX := trivial
 refine sat_mk [.tmp 4] 0 19 Tryz.call200 Tryz.func200 Tryz.ntmps200 rfl rfl rfl rfl rfl ?_
 refine zI [0, 1] ?_
 refine zS [0, 1] ?_
 refine zS [0, 1, 7, 8] ?_
 intro ρ hL
 have e1 := hL
 refine awl_loopH (fun H0 n σ G => ∃ (i : Nat), n = xs.length - i ∧ (i ≤ xs.length) ∧ (firstAt p (xs.drop i) i = firstAt p xs 0) ∧ (liveE [0, 1, 7] σ ρ ∧ σ 8 = .int .i64 (i : Int)) ∧ G = H0) (fun H0 σ G => (firstAt p xs 0 = -1) ∧ (True) ∧ G = H0) ((fun (i : Nat) => xs.length - i) 0) ?init1 (fun n ρ G hI => ?round1) (fun ρ G hJ => ?after1)
 case init1 => exact ⟨0, rfl, (Nat.zero_le _), (by simp), ⟨liveE_refl _ _, (hL.2.2.2)⟩, rfl⟩
 case round1 =>
  clear hL
  obtain ⟨i, hn, i1_0, i1_1, hL, hG⟩ := hI
  subst hG
  try simp only [go_sem, simprocAttr, e1, hX] at hL
  revert ρ hL
  refine zS [0, 1, 7, 8, 9] ?_
  refine zC ?_ ?_
  ·intro c1
   have hi1 : i < xs.length := by omega
   replace hX := And.intro hi1 hX
   intro ρ hL
   refine awl_skip (awl_seq (awl_block fun R1 hw1 hR1 => ?_))
   revert ρ hL
   refine zS [0, 1, 5, 7, 8] ?_
   intro ρ hL
   refine zA ?_
   intro K hK
   refine opS_call_ro (by simp only [go_sem, simprocAttr, hL, hX]; exact rfl) (hg ?_) ?ha ?hv ?hh ?_
   case ha => simp only [go_sem, simprocAttr, hL, hX]; first | done | rfl
   case hv => first | rfl | (simp only [go_sem]; done)
   case hh => first | rfl | (simp only [go_sem]; done)
   try simp only [go_sem, simprocAttr, hL, hX]
   repeat' refine And.intro (by first | rfl | omega | (simp; done)) ?_
   refine zE [0, 1, 5, 7, 8, 16] ?_
   clear hK K hL
   refine zC ?_ ?_
   ·intro c2
    refine zS [4] ?_
    refine zR ?_
    try simp only [go_sem, simprocAttr]
    all_goals ((try clear hR1); have := firstAt_drop (p := p) (d := 0) xs i 0 hi1; rw [← i1_1]; simp only [Nat.zero_add] at this; rw [this, if_pos (by simpa using c2)])
   ·intro c2 ρ hL
    refine awl_skip (awl_nil (blk_normal (hR1 _ _ (.mk ?_))))
    have w1 : IntKind.i64.wrap ((i : Int) + 1) = ((i + 1 : Nat) : Int) := by rw [wrap64 (by omega)]; omega
    replace hX := And.intro w1 hX
    revert ρ hL
    refine zS [0, 1, 7, 8] ?_
    intro ρ hL
    refine awl_nil ?_
    refine loop_again _ ?meas ⟨i + 1, rfl, (by omega), (by have := firstAt_drop (p := p) (d := 0) xs i 0 hi1; rw [← i1_1]; simp only [Nat.zero_add] at this; rw [this, if_neg (by simpa using c2)]), ⟨(by simp only [go_sem, simprocAttr, hL, hX, e1]), (hL.2.2.2)⟩, rfl⟩
    case meas => subst hn; omega
  ·intro c1 ρ hL
   refine awl_exit (loop_break ?_)
   exact ⟨(by rw [← i1_1, List.drop_of_length_le (by omega)]; rfl), trivial, rfl⟩
 case after1 =>
  clear hL
  obtain ⟨j1_0, hL, hG⟩ := hJ
  subst hG
  refine zA ?_
  intro K hK
  refine zE [4] ?_
  clear hK K hL
  refine zR ?_
  try simp only [go_sem, simprocAttr]
  all_goals ((try clear hR1); rw [j1_0])
theorem sat_impl_GuessOk_1 (x : Int)  : Sat Tryz.prog 159 [.int .i64 x] [] (.bool (!inR x (-1) 65535)) [] := by
 have hX := trivial
 refine sat_mk [.tmp 2] 0 6 Tryz.call159 Tryz.func159 Tryz.ntmps159 rfl rfl rfl rfl rfl ?_
 refine zI [0] ?_
 refine zS [0] ?_
 refine zSF [2] (sat_impl_in _ _ _) ?_
 refine zR ?_
 try simp only [go_sem, simprocAttr]
 all_goals (first | done | rfl | (simp; done) | (simp [inR]; done) | (simp_all [inR]; done) | (simp [inR]; grind))
theorem sat_slices_ContainsFunc_int_int (xs : List Int) (c : Nat) (g : FuncId) (p : Int → Bool) (hb : xs.length ≤ 1099511627776) (hg : ∀ x, Sat Tryz.prog g [.int .i64 x] [] (.bool (p x)) []) : Sat Tryz.prog 158 [.sl xs.length c (ints xs), .func g [] []] [] (.bool (xs.any p)) [] := by
 have hX := trivial
 refine sat_mk [.tmp 4] 0 9 Tryz.call158 Tryz.func158 Tryz.ntmps158 rfl rfl rfl rfl rfl ?_
 refine zI [0, 1] ?_
 refine zS [0, 1] ?_
 refine zSF [4] (sat_slices_IndexFunc_int_int _ _ _ p ?hp0 ?hp1) ?_
 case hp0 => first | assumption | omega | (simp; done)
 case hp1 => first | assumption | omega | (simp; done)
 refine zR ?_
 try simp only [go_sem, simprocAttr]
 all_goals (have := firstAt_neg (p := p) xs 0; cases h : xs.any p <;> simp_all)
theorem sat_impl_GuessOk (xs : List Int) (c : Nat) (hb : xs.length ≤ 1099511627776) : Sat Tryz.prog 94 [.sl xs.length c (ints xs)] [] (.bool (guessOk xs)) [] := by
 have hX := trivial
 refine sat_mk [.tmp 2] 0 11 Tryz.call94 Tryz.func94 Tryz.ntmps94 rfl rfl rfl rfl rfl ?_
 refine zI [0] ?_
 refine zS [0] ?_
 intro ρ hL
 refine zA ?_
 intro K hK
 refine zL [0, 6] ?_
 clear hL
 intro ρ hL
 refine grp_andN (v := ?v1) 3 rfl [] hL.2 rfl (fun hb K1 hK1 => ?run) (fun hb => skA (want := true) (b := _) (by rw [hb]; rfl) hL.2 rfl) (fun ρ hP hM => ?_)
 case run =>
  refine zRn ?_
  intro hL
  refine zF (sat_slices_ContainsFunc_int_int _ _ _ (fun x => !inR x (-1) 65535) ?hp0 ?hp1) ?_
  case hp0 => first | assumption | omega | (simp; done)
  case hp1 => exact sat_impl_GuessOk_1
  exact zK1
 simp only [List.drop_succ_cons, List.drop_zero]
 clear hM hL
 have hL := hP
 clear hP
 try simp only [go_sem, simprocAttr, hL, hX]
 repeat' refine And.intro (by first | rfl | omega | (simp; done)) ?_
 refine zE [2] ?_
 clear hK K hL
 refine zR ?_
 try simp only [go_sem, simprocAttr]
 all_goals (rw [guessOk, List.all_eq_not_any_not]; rw [show decide ((xs.length : Int) = 48) = decide (xs.length = 48) by rw [decide_eq_decide]; omega])
theorem sat_spec_Plain (n : Int)  : Sat Tryz.prog 128 [.int .i64 n] [] (.agg (plain n).cells) [] := by
 have hX := trivial
 refine sat_mk [.cell 2 27] 0 6 Tryz.call128 Tryz.func128 Tryz.ntmps128 rfl rfl rfl rfl rfl ?_
 refine zI [0] ?_
 refine zS [0, 2] ?_
 refine zS [2] ?_
 refine zR ?_
 try simp only [go_sem, simprocAttr]
 all_goals (first | done | rfl | (simp; done) | (simp [inR]; done) | (simp_all [inR]; done) | (simp [inR]; grind))
theorem sat_impl_Plain (n : Int)  : Sat Tryz.prog 142 [.int .i64 n] [] (.agg (plain n).cells) [] := by
 have hX := trivial
 refine sat_mk [.cell 2 27] 0 6 Tryz.call142 Tryz.func142 Tryz.ntmps142 rfl rfl rfl rfl rfl ?_
 refine zI [0] ?_
 refine zS [0, 2] ?_
 refine zS [2] ?_
 refine zR ?_
 try simp only [go_sem, simprocAttr]
 all_goals (first | done | rfl | (simp; done) | (simp [inR]; done) | (simp_all [inR]; done) | (simp [inR]; grind))
theorem sat_impl_Bare (w : Word)  : Sat Tryz.prog 249 [.agg w.cells] [] (.agg (plain w.n).cells) [] := by
 have hX := trivial
 refine sat_mk [.cell 2 27] 0 6 Tryz.call249 Tryz.func249 Tryz.ntmps249 rfl rfl rfl rfl rfl ?_
 refine zI [0] ?_
 refine zS [1, 2] ?_
 refine zSF [2] (sat_impl_Plain _) ?_
 refine zR ?_
 try simp only [go_sem, simprocAttr]
 all_goals (first | done | rfl | (simp; done) | (simp [inR]; done) | (simp_all [inR]; done) | (simp [inR]; grind))
theorem sat_slices_Clone_int_int_N   : Sat Tryz.prog 89 [.nilsl] [] .nilsl [] := by
 have hX := trivial
 refine sat_mk [.tmp 2] 0 8 Tryz.call89 Tryz.func89 Tryz.ntmps89 rfl rfl rfl rfl rfl ?_
 refine zI [0] ?_
 refine zS [0] ?_
 refine zS [0, 4] ?_
 refine zQ ?_ ?_
 ·intro c1
  try simp only [cnd] at c1
  refine zS [2] ?_
  refine zR ?_
  try simp only [go_sem, simprocAttr]
  all_goals (first | done | rfl | (simp; done) | (simp [inR]; done) | (simp_all [inR]; done) | (simp [inR]; grind))
 ·intro c1
  try simp only [cnd] at c1
  simp at c1
theorem sat_slices_Clone_int_int_S (xs : List Int) (c : Nat) (hb : xs.length ≤ 1099511627776) : Sat Tryz.prog 89 [.nnsl xs.length c (ints xs)] [] (.slice 0 0 xs.length 0) [⟨1, ints xs, true, false⟩] := by
 have hX := trivial
 refine sat_mk [.tmp 2] 0 8 Tryz.call89 Tryz.func89 Tryz.ntmps89 rfl rfl rfl rfl rfl ?_
 refine zI [0] ?_
 refine zS [0] ?_
 refine zS [0, 4] ?_
 refine zQ ?_ ?_
 ·intro c1
  try simp only [cnd] at c1
  simp at c1
 ·intro c1
  try simp only [cnd] at c1
  intro ρ hL
  refine awl_skip ?_
  revert ρ hL
  refine zS [2] ?_
  refine zK [0] [0] ?_ ?_
  all_goals try simp only [go_sem, simprocAttr, hX]
  all_goals (first | done | rfl | (simp; done) | (simp [inR]; done) | (simp_all [inR]; done) | (simp [inR]; grind))
theorem sat_slices_Clone_int_int (xs : List Int) (c : Nat) (hb : xs.length ≤ 1099511627776) : Sat Tryz.prog 89 [.sl xs.length c (ints xs)] [] (.slice 0 0 xs.length 0) [⟨1, ints xs, true, false⟩] := by
 refine sat_sl (fun h0 _ => ?_) (sat_slices_Clone_int_int_S xs c hb)
 obtain rfl : xs = [] := List.eq_nil_of_length_eq_zero h0
 exact sat_nil_back sat_slices_Clone_int_int_N
theorem sat_spec_Learn (xs : List Int) (w : Word) (v : Word) (c : Nat) (hb : xs.length ≤ 1099511627776) : Sat Tryz.prog 174 [.sl xs.length c (ints xs), .agg w.cells, .agg v.cells] [] (.slice 0 0 xs.length 0) [⟨1, ints (learn xs w v), true, false⟩] := by
 have hX := trivial
 refine sat_mk [.tmp 6] 0 26 Tryz.call174 Tryz.func174 Tryz.ntmps174 rfl rfl rfl rfl rfl ?_
 refine zI [0, 1, 2] ?_
 refine zS [0, 4, 5] ?_
 refine zS [0, 4, 5, 7] ?_
 have w0 : IntKind.i64.wrap ((xs.length : Int) - 1) = (xs.length : Int) - 1 := wrap64 (by omega)
 refine zSFX [4, 5, 7, 16] (sat_spec_l1In _ _ _) (And.intro w0 hX) ?_
 refine zC ?_ ?_
 ·intro c1
  have hw := inR_iff.1 c1
  obtain ⟨k, hk⟩ := Int.eq_ofNat_of_zero_le hw.1
  have hk2 : k < xs.length := by omega
  intro ρ hL
  repeat refine awl_seq ?_
  refine awl_regD mixed _ rfl fun K hK => ?_
  try simp only [go_sem, simprocAttr, hL, hX, hk, put_ints hk2]
  repeat' refine And.intro (by first | omega | (exact ⟨[0, 0, 2, 0, 8, 24, 56, 127, 255], by kernel_rfl⟩) | kernel_rfl) ?_
  refine dS_call_ro rfl (sat_spec_Plain ?_) ?ha ?hv ?hh ?_
  case ha => simp only [go_sem, simprocAttr, hL, hX, hk, put_ints hk2]; first | done | rfl
  case hv => first | rfl | (simp only [go_sem]; done)
  case hh => first | rfl | (simp only [go_sem]; done)
  try simp only [go_sem, simprocAttr, hL, hX, hk, put_ints hk2]
  repeat' refine And.intro (by first | omega | (exact ⟨[0, 0, 2, 0, 8, 24, 56, 127, 255], by kernel_rfl⟩) | kernel_rfl) ?_
  refine hK _ _ (.mk (awl_live' [7] fun ρ hM => ?_))
  try simp only [go_sem, simprocAttr, hL, hX, hk, put_ints hk2] at hM
  clear hK K hL
  revert ρ hM
  refine zS [6] ?_
  refine zK [2] [2] ?_ ?_
  all_goals try simp only [go_sem, simprocAttr, hX]
  all_goals (rw [learn, if_pos c1, hk, Int.toNat_natCast]; first | done | rfl)
 ·intro c1 ρ hL
  refine awl_skip ?_
  revert ρ hL
  refine zS [6] ?_
  refine zK [2] [2] ?_ ?_
  all_goals try simp only [go_sem, simprocAttr, hX]
  all_goals (rw [learn, if_neg (by simp [c1])])
theorem sat_impl_Learn (xs : List Int) (w : Word) (v : Word) (c : Nat) (hb : xs.length ≤ 1099511627776) : Sat Tryz.prog 207 [.sl xs.length c (ints xs), .agg w.cells, .agg v.cells] [] (.slice 0 0 xs.length 0) [⟨1, ints (learn xs w v), true, false⟩] := by
 have hX := trivial
 refine sat_mk [.tmp 6] 0 24 Tryz.call207 Tryz.func207 Tryz.ntmps207 rfl rfl rfl rfl rfl ?_
 refine zI [0, 1, 2] ?_
 refine zS [0, 4, 5] ?_
 refine zSF [0, 4, 5, 7] (sat_slices_Clone_int_int _ _ ?hp0) ?_
 case hp0 => first | assumption | omega | (simp; done)
 have w0 : IntKind.i64.wrap ((xs.length : Int) - 1) = (xs.length : Int) - 1 := wrap64 (by omega)
 refine zSFX [4, 5, 7, 15] (sat_impl_in _ _ _) (And.intro w0 hX) ?_
 refine zC ?_ ?_
 ·intro c1
  have hw := inR_iff.1 c1
  obtain ⟨k, hk⟩ := Int.eq_ofNat_of_zero_le hw.1
  have hk2 : k < xs.length := by omega
  intro ρ hL
  repeat refine awl_seq ?_
  refine awl_regD mixed _ rfl fun K hK => ?_
  try simp only [go_sem, simprocAttr, hL, hX, hk, put_ints hk2]
  repeat' refine And.intro (by first | omega | (exact ⟨[0, 0, 2, 0, 8, 24, 63, 127], by kernel_rfl⟩) | kernel_rfl) ?_
  refine dS_call_ro rfl (sat_impl_Bare ?_) ?ha ?hv ?hh ?_
  case ha => simp only [go_sem, simprocAttr, hL, hX, hk, put_ints hk2]; first | done | rfl
  case hv => first | rfl | (simp only [go_sem]; done)
  case hh => first | rfl | (simp only [go_sem]; done)
  try simp only [go_sem, simprocAttr, hL, hX, hk, put_ints hk2]
  repeat' refine And.intro (by first | omega | (exact ⟨[0, 0, 2, 0, 8, 24, 63, 127], by kernel_rfl⟩) | kernel_rfl) ?_
  refine hK _ _ (.mk (awl_live' [7] fun ρ hM => ?_))
  try simp only [go_sem, simprocAttr, hL, hX, hk, put_ints hk2] at hM
  clear hK K hL
  revert ρ hM
  refine zS [6] ?_
  refine zK [2] [2] ?_ ?_
  all_goals try simp only [go_sem, simprocAttr, hX]
  all_goals (rw [learn, if_pos c1, hk, Int.toNat_natCast]; first | done | rfl)
 ·intro c1 ρ hL
  refine awl_skip ?_
  revert ρ hL
  refine zS [6] ?_
  refine zK [2] [2] ?_ ?_
  all_goals try simp only [go_sem, simprocAttr, hX]
  all_goals (rw [learn, if_neg (by simp [c1])])
theorem sat_slices_Equal_impl_Word_impl_Word (xs : List Word) (ys : List Word) (hb : xs.length ≤ 1099511627776) : Sat Tryz.prog 53 [.sl xs.length xs.length (rows xs), .sl ys.length ys.length (rows ys)] [] (.bool (decide (xs = ys))) [] := by
 have hX := trivial
 refine sat_mk [.tmp 4] 0 26 Tryz.call53 Tryz.func53 Tryz.ntmps53 rfl rfl rfl rfl rfl ?_
 refine zI [0, 1] ?_
 refine zS [0, 1] ?_
 refine zS [0, 1, 10] ?_
 refine zC ?_ ?_
 ·intro c1
  refine zS [4] ?_
  refine zR ?_
  try simp only [go_sem, simprocAttr]
  all_goals (rw [decide_eq_false]; rintro rfl; exact c1 rfl)
 ·intro c1 ρ hL
  refine awl_skip ?_
  revert ρ hL
  refine zS [0, 1, 12, 13] ?_
  intro ρ hL
  have e1 := hL
  refine awl_loopH (fun H0 n σ G => ∃ (i : Nat), n = xs.length - i ∧ (i ≤ xs.length) ∧ (xs.take i = ys.take i) ∧ (liveE [0, 1, 12] σ ρ ∧ σ 13 = .int .i64 (i : Int)) ∧ G = H0) (fun H0 σ G => (xs = ys) ∧ (True) ∧ G = H0) ((fun (i : Nat) => xs.length - i) 0) ?init1 (fun n ρ G hI => ?round1) (fun ρ G hJ => ?after1)
  case init1 => exact ⟨0, rfl, (Nat.zero_le _), (by simp), ⟨liveE_refl _ _, (hL.2.2.2)⟩, rfl⟩
  case round1 =>
   clear hL
   obtain ⟨i, hn, i1_0, i1_1, hL, hG⟩ := hI
   subst hG
   try simp only [go_sem, simprocAttr, e1, hX] at hL
   revert ρ hL
   refine zS [0, 1, 12, 13, 14] ?_
   refine zC ?_ ?_
   ·intro c2
    have hi1 : i < xs.length := by omega
    replace hX := And.intro hi1 hX
    intro ρ hL
    refine awl_skip (awl_seq (awl_block fun R1 hw1 hR1 => ?_))
    revert ρ hL
    refine zS [0, 1, 5, 12, 13] ?_
    have hj : i < ys.length := by omega
    refine zDX [0, 0, 3, 7, 0, 0, 48, 112, 255] [0, 1, 12, 13, 24] (And.intro hj hX) ?_
    refine zC ?_ ?_
    ·intro c3
     refine zS [4] ?_
     refine zR ?_
     try simp only [go_sem, simprocAttr]
     all_goals ((try clear hR1); rw [decide_eq_false]; rintro rfl; simp at c3)
    ·intro c3 ρ hL
     refine awl_skip (awl_nil (blk_normal (hR1 _ _ (.mk ?_))))
     have w1 : IntKind.i64.wrap ((i : Int) + 1) = ((i + 1 : Nat) : Int) := by rw [wrap64 (by omega)]; omega
     replace hX := And.intro w1 hX
     revert ρ hL
     refine zS [0, 1, 12, 13] ?_
     intro ρ hL
     refine awl_nil ?_
     refine loop_again _ ?meas ⟨i + 1, rfl, (by omega), (by exact take_succ_eq (d := noWord) hi1 hj i1_1 (by simpa [word_eq] using c3)), ⟨(by simp only [go_sem, simprocAttr, hL, hX, e1]), (hL.2.2.2)⟩, rfl⟩
     case meas => subst hn; omega
   ·intro c2 ρ hL
    refine awl_exit (loop_break ?_)
    exact ⟨(by exact eq_of_take (i := i) (by omega) (by omega) i1_1), trivial, rfl⟩
  case after1 =>
   clear hL
   obtain ⟨j1_0, hL, hG⟩ := hJ
   subst hG
   refine zA ?_
   intro K hK
   refine zE [4] ?_
   clear hK K hL
   refine zR ?_
   try simp only [go_sem, simprocAttr]
   all_goals ((try clear hR1); rw [decide_eq_true j1_0])
theorem sat_slices_Equal_bool_bool (xs : List Bool) (ys : List Bool) (hb : xs.length ≤ 1099511627776) : Sat Tryz.prog 54 [.sl xs.length xs.length (rows xs), .sl ys.length ys.length (rows ys)] [] (.bool (decide (xs = ys))) [] := by
 have hX := trivial
 refine sat_mk [.tmp 4] 0 26 Tryz.call54 Tryz.func54 Tryz.ntmps54 rfl rfl rfl rfl rfl ?_
 refine zI [0, 1] ?_
 refine zS [0, 1] ?_
 refine zS [0, 1, 10] ?_
 refine zC ?_ ?_
 ·intro c1
  refine zS [4] ?_
  refine zR ?_
  try simp only [go_sem, simprocAttr]
  all_goals (rw [decide_eq_false]; rintro rfl; exact c1 rfl)
 ·intro c1 ρ hL
  refine awl_skip ?_
  revert ρ hL
  refine zS [0, 1, 12, 13] ?_
  intro ρ hL
  have e1 := hL
  refine awl_loopH (fun H0 n σ G => ∃ (i : Nat), n = xs.length - i ∧ (i ≤ xs.length) ∧ (xs.take i = ys.take i) ∧ (liveE [0, 1, 12] σ ρ ∧ σ 13 = .int .i64 (i : Int)) ∧ G = H0) (fun H0 σ G => (xs = ys) ∧ (True) ∧ G = H0) ((fun (i : Nat) => xs.length - i) 0) ?init1 (fun n ρ G hI => ?round1) (fun ρ G hJ => ?after1)
  case init1 => exact ⟨0, rfl, (Nat.zero_le _), (by simp), ⟨liveE_refl _ _, (hL.2.2.2)⟩, rfl⟩
  case round1 =>
   clear hL
   obtain ⟨i, hn, i1_0, i1_1, hL, hG⟩ := hI
   subst hG
   try simp only [go_sem, simprocAttr, e1, hX] at hL
   revert ρ hL
   refine zS [0, 1, 12, 13, 14] ?_
   refine zC ?_ ?_
   ·intro c2
    have hi1 : i < xs.length := by omega
    replace hX := And.intro hi1 hX
    intro ρ hL
    refine awl_skip (awl_seq (awl_block fun R1 hw1 hR1 => ?_))
    revert ρ hL
    refine zS [0, 1, 5, 12, 13] ?_
    have hj : i < ys.length := by omega
    refine zDX [0, 0, 3, 7, 0, 0, 48, 112, 255] [0, 1, 12, 13, 24] (And.intro hj hX) ?_
    refine zC ?_ ?_
    ·intro c3
     refine zS [4] ?_
     refine zR ?_
     try simp only [go_sem, simprocAttr]
     all_goals ((try clear hR1); rw [decide_eq_false]; rintro rfl; simp at c3)
    ·intro c3 ρ hL
     refine awl_skip (awl_nil (blk_normal (hR1 _ _ (.mk ?_))))
     have w1 : IntKind.i64.wrap ((i : Int) + 1) = ((i + 1 : Nat) : Int) := by rw [wrap64 (by omega)]; omega
     replace hX := And.intro w1 hX
     revert ρ hL
     refine zS [0, 1, 12, 13] ?_
     intro ρ hL
     refine awl_nil ?_
     refine loop_again _ ?meas ⟨i + 1, rfl, (by omega), (by exact take_succ_eq (d := false) hi1 hj i1_1 (by simpa [word_eq] using c3)), ⟨(by simp only [go_sem, simprocAttr, hL, hX, e1]), (hL.2.2.2)⟩, rfl⟩
     case meas => subst hn; omega
   ·intro c2 ρ hL
    refine awl_exit (loop_break ?_)
    exact ⟨(by exact eq_of_take (i := i) (by omega) (by omega) i1_1), trivial, rfl⟩
  case after1 =>
   clear hL
   obtain ⟨j1_0, hL, hG⟩ := hJ
   subst hG
   refine zA ?_
   intro K hK
   refine zE [4] ?_
   clear hK K hL
   refine zR ?_
   try simp only [go_sem, simprocAttr]
   all_goals ((try clear hR1); rw [decide_eq_true j1_0])
theorem sat_spec_l17Words (xs : List Word) (ys : List Word) (hb : xs.length ≤ 1099511627776) : Sat Tryz.prog 168 [.sl xs.length xs.length (rows xs), .sl ys.length ys.length (rows ys)] [] (.bool (decide (xs = ys))) [] := by
 have hX := trivial
 refine sat_mk [.tmp 4] 0 32 Tryz.call168 Tryz.func168 Tryz.ntmps168 rfl rfl rfl rfl rfl ?_
 refine zI [0, 1] ?_
 refine zS [0, 1] ?_
 refine zS [0, 1, 5] ?_
 intro ρ hL
 have e1 := hL
 refine awl_loopH (fun H0 n σ G => ∃ (i : Nat), n = (min xs.length ys.length) - i ∧ (i ≤ (min xs.length ys.length)) ∧ (xs.take i = ys.take i) ∧ (liveE [0, 1] σ ρ ∧ σ 5 = .int .i64 (i : Int)) ∧ G = H0) (fun H0 σ G => (xs.length = ys.length → xs = ys) ∧ (liveE [0, 1] σ ρ) ∧ G = H0) ((fun (i : Nat) => (min xs.length ys.length) - i) 0) ?init1 (fun n ρ G hI => ?round1) (fun ρ G hJ => ?after1)
 case init1 => exact ⟨0, rfl, (Nat.zero_le _), (by simp), ⟨liveE_refl _ _, (hL.2.2)⟩, rfl⟩
 case round1 =>
  clear hL
  obtain ⟨i, hn, i1_0, i1_1, hL, hG⟩ := hI
  subst hG
  try simp only [go_sem, simprocAttr, e1, hX] at hL
  refine zA ?_
  intro K hK
  refine zL [0, 1, 5, 10] ?_
  clear hL
  intro ρ hL
  refine grp_andN (v := ?v1) 4 rfl [0, 1, 5] hL.2.2.2 rfl (fun hb K1 hK1 => ?run) (fun hb => skA (want := true) (b := _) (by rw [hb]; rfl) hL.2.2.2 rfl) (fun ρ hP hM => ?_)
  case run => exact zR1
  refine zPp ?_
  clear hL hP hM
  intro hL
  refine zE [0, 1, 5, 15] ?_
  clear hK K hL
  refine zC ?_ ?_
  ·intro c1
   have hi1 : i < (min xs.length ys.length) := by omega
   replace hX := And.intro hi1 hX
   intro ρ hL
   refine awl_skip (awl_seq (awl_block fun R1 hw1 hR1 => ?_))
   have hx : i < xs.length := by omega
   have hy : i < ys.length := by omega
   revert ρ hL
   refine zDX [0, 0, 3, 7, 0, 0, 48, 112, 255] [0, 1, 5, 26] (And.intro hx (And.intro hy hX)) ?_
   refine zC ?_ ?_
   ·intro c2
    refine zS [4] ?_
    refine zR ?_
    try simp only [go_sem, simprocAttr]
    all_goals ((try clear hR1); rw [decide_eq_false]; rintro rfl; simp at c2)
   ·intro c2 ρ hL
    refine awl_skip (awl_nil (blk_normal (hR1 _ _ (.mk ?_))))
    have w1 : IntKind.i64.wrap ((i : Int) + 1) = ((i + 1 : Nat) : Int) := by rw [wrap64 (by omega)]; omega
    replace hX := And.intro w1 hX
    revert ρ hL
    refine zS [0, 1, 5] ?_
    intro ρ hL
    refine awl_nil ?_
    refine loop_again _ ?meas ⟨i + 1, rfl, (by omega), (by exact take_succ_eq (d := noWord) hx hy i1_1 (by simpa [word_eq] using c2)), ⟨(by simp only [go_sem, simprocAttr, hL, hX, e1]), (hL.2.2)⟩, rfl⟩
    case meas => subst hn; omega
  ·intro c1 ρ hL
   refine awl_exit (loop_break ?_)
   exact ⟨(by exact fun hl => eq_of_take (i := i) (by omega) (by omega) i1_1), (by simp only [go_sem, simprocAttr, hL, hX, e1]), rfl⟩
 case after1 =>
  clear hL
  obtain ⟨j1_0, hL, hG⟩ := hJ
  subst hG
  try simp only [go_sem, simprocAttr, e1, hX] at hL
  revert ρ hL
  refine zS [4] ?_
  refine zR ?_
  try simp only [go_sem, simprocAttr]
  all_goals ((try clear hR1); rw [AV.bool.injEq, decide_eq_decide]; exact ⟨fun h => j1_0 (by omega), fun h => by rw [h]⟩)
theorem sat_slices_Clone_impl_Word_impl_Word_N   : Sat Tryz.prog 140 [.nilsl] [] .nilsl [] := by
 have hX := trivial
 refine sat_mk [.tmp 2] 0 8 Tryz.call140 Tryz.func140 Tryz.ntmps140 rfl rfl rfl rfl rfl ?_
 refine zI [0] ?_
 refine zS [0] ?_
 refine zS [0, 4] ?_
 refine zQ ?_ ?_
 ·intro c1
  try simp only [cnd] at c1
  refine zS [2] ?_
  refine zR ?_
  try simp only [go_sem, simprocAttr]
  all_goals (first | done | rfl | (simp; done) | (simp [inR]; done) | (simp_all [inR]; done) | (simp [inR]; grind))
 ·intro c1
  try simp only [cnd] at c1
  simp at c1
theorem sat_slices_Clone_impl_Word_impl_Word_S (xs : List Word) (c : Nat) (hb : xs.length ≤ 1099511627776) : Sat Tryz.prog 140 [.nnsl xs.length c (rows xs)] [] (.slice 0 0 xs.length 0) [⟨6, rows xs, true, false⟩] := by
 have hX := trivial
 refine sat_mk [.tmp 2] 0 8 Tryz.call140 Tryz.func140 Tryz.ntmps140 rfl rfl rfl rfl rfl ?_
 refine zI [0] ?_
 refine zS [0] ?_
 refine zS [0, 4] ?_
 refine zQ ?_ ?_
 ·intro c1
  try simp only [cnd] at c1
  simp at c1
 ·intro c1
  try simp only [cnd] at c1
  intro ρ hL
  refine awl_skip ?_
  revert ρ hL
  refine zS [2] ?_
  refine zK [0] [0] ?_ ?_
  all_goals try simp only [go_sem, simprocAttr, hX]
  all_goals (first | done | rfl | (simp; done) | (simp [inR]; done) | (simp_all [inR]; done) | (simp [inR]; grind))
theorem sat_slices_Clone_impl_Word_impl_Word (xs : List Word) (c : Nat) (hb : xs.length ≤ 1099511627776) : Sat Tryz.prog 140 [.sl xs.length c (rows xs)] [] (.slice 0 0 xs.length 0) [⟨6, rows xs, true, false⟩] := by
 refine sat_sl (fun h0 _ => ?_) (sat_slices_Clone_impl_Word_impl_Word_S xs c hb)
 obtain rfl : xs = [] := List.eq_nil_of_length_eq_zero h0
 exact sat_nil_back sat_slices_Clone_impl_Word_impl_Word_N
theorem sat_slices_Clone_bool_bool_N   : Sat Tryz.prog 190 [.nilsl] [] .nilsl [] := by
 have hX := trivial
 refine sat_mk [.tmp 2] 0 8 Tryz.call190 Tryz.func190 Tryz.ntmps190 rfl rfl rfl rfl rfl ?_
 refine zI [0] ?_
 refine zS [0] ?_
 refine zS [0, 4] ?_
 refine zQ ?_ ?_
 ·intro c1
  try simp only [cnd] at c1
  refine zS [2] ?_
  refine zR ?_
  try simp only [go_sem, simprocAttr]
  all_goals (first | done | rfl | (simp; done) | (simp [inR]; done) | (simp_all [inR]; done) | (simp [inR]; grind))
 ·intro c1
  try simp only [cnd] at c1
  simp at c1
theorem sat_slices_Clone_bool_bool_S (xs : List Bool) (c : Nat) (hb : xs.length ≤ 1099511627776) : Sat Tryz.prog 190 [.nnsl xs.length c (rows xs)] [] (.slice 0 0 xs.length 0) [⟨1, rows xs, true, false⟩] := by
 have hX := trivial
 refine sat_mk [.tmp 2] 0 8 Tryz.call190 Tryz.func190 Tryz.ntmps190 rfl rfl rfl rfl rfl ?_
 refine zI [0] ?_
 refine zS [0] ?_
 refine zS [0, 4] ?_
 refine zQ ?_ ?_
 ·intro c1
  try simp only [cnd] at c1
  simp at c1
 ·intro c1
  try simp only [cnd] at c1
  intro ρ hL
  refine awl_skip ?_
  revert ρ hL
  refine zS [2] ?_
  refine zK [0] [0] ?_ ?_
  all_goals try simp only [go_sem, simprocAttr, hX]
  all_goals (first | done | rfl | (simp; done) | (simp [inR]; done) | (simp_all [inR]; done) | (simp [inR]; grind))
theorem sat_slices_Clone_bool_bool (xs : List Bool) (c : Nat) (hb : xs.length ≤ 1099511627776) : Sat Tryz.prog 190 [.sl xs.length c (rows xs)] [] (.slice 0 0 xs.length 0) [⟨1, rows xs, true, false⟩] := by
 refine sat_sl (fun h0 _ => ?_) (sat_slices_Clone_bool_bool_S xs c hb)
 obtain rfl : xs = [] := List.eq_nil_of_length_eq_zero h0
 exact sat_nil_back sat_slices_Clone_bool_bool_N
theorem sat_spec_l8Copy (m : Mem) (hb : m.fit) : Sat Tryz.prog 127 [.agg m.cells] [] (.agg (m.own 0 1)) m.blks := by
 have hX := trivial
 refine sat_mk [.cell 2 30] 0 12 Tryz.call127 Tryz.func127 Tryz.ntmps127 rfl rfl rfl rfl rfl ?_
 refine zI [0] ?_
 have hb1 := hb.1
 have hb2 := hb.2
 refine zS [1, 2] ?_
 refine zD [0, 0, 2, 7, 0, 0, 32, 127, 255, 511] [2] ?_
 refine zK [2, 3] [2, 3] ?_ ?_
 all_goals try simp only [go_sem, simprocAttr, hX]
 all_goals (first | done | rfl | (simp; done) | (simp [inR]; done) | (simp_all [inR]; done) | (simp [inR]; grind))
theorem sat_impl_cloneMemory (m : Mem) (hb : m.fit) : Sat Tryz.prog 141 [.agg m.cells] [] (.agg (m.own 0 1)) m.blks := by
 have hX := trivial
 refine sat_mk [.cell 2 30] 0 10 Tryz.call141 Tryz.func141 Tryz.ntmps141 rfl rfl rfl rfl rfl ?_
 refine zI [0] ?_
 refine zS [1, 2] ?_
 intro ρ hL
 refine zAD [0, 1, 3, 0, 8, 31, 63, 127] ?_
 intro K hK
 refine zFD [0, 1, 3, 0, 8, 31, 63, 127] (sat_slices_Clone_impl_Word_impl_Word m.words m.words.length (Nat.le_trans hb.1 (by decide))) ?_
 refine zFD [0, 1, 3, 0, 8, 31, 63, 127] (sat_slices_Clone_bool_bool m.gone m.gone.length (Nat.le_trans hb.2 (by decide))) ?_
 refine zE [2] ?_
 clear hK K hL
 refine zK [2, 3] [2, 3] ?_ ?_
 all_goals try simp only [go_sem, simprocAttr, hX]
 all_goals (first | done | rfl | (simp; done) | (simp [inR]; done) | (simp_all [inR]; done) | (simp [inR]; grind))
theorem sat_spec_l9Copy (s : Stt) (hb : s.fit) : Sat Tryz.prog 66 [.agg s.cells] [] (.agg (s.own 0 1 2)) s.blks := by
 have hX := trivial
 refine sat_mk [.cell 2 32] 0 15 Tryz.call66 Tryz.func66 Tryz.ntmps66 rfl rfl rfl rfl rfl ?_
 refine zI [0] ?_
 have hb1 := hb.1
 refine zS [1, 2] ?_
 intro ρ hL
 refine zAD [0, 0, 2, 7, 0, 16, 0, 64, 207, 0, 512, 2047, 4095] ?_
 intro K hK
 refine zFD [0, 0, 2, 7, 0, 16, 0, 64, 207, 0, 512, 2047, 4095] (sat_spec_l8Copy s.mem hb.2) ?_
 refine zE [2] ?_
 clear hK K hL
 refine zK [2, 3, 4] [2, 3, 4] ?_ ?_
 all_goals try simp only [go_sem, simprocAttr, hX]
 all_goals (first | done | rfl | (simp; done) | (simp [inR]; done) | (simp_all [inR]; done) | (simp [inR]; grind))
theorem sat_impl_cloneState (s : Stt) (hb : s.fit) : Sat Tryz.prog 73 [.agg s.cells] [] (.agg (s.own 0 1 2)) s.blks := by
 have hX := trivial
 refine sat_mk [.cell 2 32] 0 12 Tryz.call73 Tryz.func73 Tryz.ntmps73 rfl rfl rfl rfl rfl ?_
 refine zI [0] ?_
 refine zS [1, 2] ?_
 intro ρ hL
 refine zAD [0, 1, 3, 0, 8, 31, 31, 127, 255, 511] ?_
 intro K hK
 refine zFD [0, 1, 3, 0, 8, 31, 31, 127, 255, 511] (sat_slices_Clone_impl_Word_impl_Word s.regs s.regs.length (Nat.le_trans hb.1 (by decide))) ?_
 refine zFD [0, 1, 3, 0, 8, 31, 31, 127, 255, 511] (sat_impl_cloneMemory s.mem hb.2) ?_
 refine zE [1, 2] ?_
 clear hK K hL
 refine zS [2] ?_
 refine zK [2, 3, 4] [2, 3, 4] ?_ ?_
 all_goals try simp only [go_sem, simprocAttr, hX]
 all_goals (first | done | rfl | (simp; done) | (simp [inR]; done) | (simp_all [inR]; done) | (simp [inR]; grind))
theorem sat_slices_Clone_impl_Entry_impl_Entry_N   : Sat Tryz.prog 155 [.nilsl] [] .nilsl [] := by
 have hX := trivial
 refine sat_mk [.tmp 2] 0 8 Tryz.call155 Tryz.func155 Tryz.ntmps155 rfl rfl rfl rfl rfl ?_
 refine zI [0] ?_
 refine zS [0] ?_
 refine zS [0, 4] ?_
 refine zQ ?_ ?_
 ·intro c1
  try simp only [cnd] at c1
  refine zS [2] ?_
  refine zR ?_
  try simp only [go_sem, simprocAttr]
  all_goals (first | done | rfl | (simp; done) | (simp [inR]; done) | (simp_all [inR]; done) | (simp [inR]; grind))
 ·intro c1
  try simp only [cnd] at c1
  simp at c1
theorem sat_slices_Clone_impl_Entry_impl_Entry_S (xs : List Ent) (c : Nat) (hb : xs.length ≤ 1048576) : Sat Tryz.prog 155 [.nnsl xs.length c (rows xs)] [] (.slice 0 0 xs.length 0) [⟨40, rows xs, true, false⟩] := by
 have hX := trivial
 refine sat_mk [.tmp 2] 0 8 Tryz.call155 Tryz.func155 Tryz.ntmps155 rfl rfl rfl rfl rfl ?_
 refine zI [0] ?_
 refine zS [0] ?_
 refine zS [0, 4] ?_
 refine zQ ?_ ?_
 ·intro c1
  try simp only [cnd] at c1
  simp at c1
 ·intro c1
  try simp only [cnd] at c1
  intro ρ hL
  refine awl_skip ?_
  revert ρ hL
  refine zS [2] ?_
  refine zK [0] [0] ?_ ?_
  all_goals try simp only [go_sem, simprocAttr, hX]
  all_goals (first | done | rfl | (simp; done) | (simp [inR]; done) | (simp_all [inR]; done) | (simp [inR]; grind))
theorem sat_slices_Clone_impl_Entry_impl_Entry (xs : List Ent) (c : Nat) (hb : xs.length ≤ 1048576) : Sat Tryz.prog 155 [.sl xs.length c (rows xs)] [] (.slice 0 0 xs.length 0) [⟨40, rows xs, true, false⟩] := by
 refine sat_sl (fun h0 _ => ?_) (sat_slices_Clone_impl_Entry_impl_Entry_S xs c hb)
 obtain rfl : xs = [] := List.eq_nil_of_length_eq_zero h0
 exact sat_nil_back sat_slices_Clone_impl_Entry_impl_Entry_N
theorem sat_impl_cloneCore (c : Cor) (hb : c.fit) : Sat Tryz.prog 88 [.agg c.cells] [] (.agg (c.own 0 1 2 3 4)) c.blks := by
 have hX := trivial
 refine sat_mk [.cell 2 36] 0 16 Tryz.call88 Tryz.func88 Tryz.ntmps88 rfl rfl rfl rfl rfl ?_
 refine zI [0] ?_
 refine zS [1, 2] ?_
 intro ρ hL
 refine zAD [0, 1, 3, 0, 8, 31, 0, 64, 255, 223, 1023, 2047, 4095, 8191, 16383] ?_
 intro K hK
 refine zFD [0, 1, 3, 0, 8, 31, 0, 64, 255, 223, 1023, 2047, 4095, 8191, 16383] (sat_impl_cloneState c.s hb.1) ?_
 refine zFD [0, 1, 3, 0, 8, 31, 0, 64, 255, 223, 1023, 2047, 4095, 8191, 16383] (sat_slices_Clone_impl_Entry_impl_Entry c.rob c.rob.length hb.2.1) ?_
 refine zFD [0, 1, 3, 0, 8, 31, 0, 64, 255, 223, 1023, 2047, 4095, 8191, 16383] (sat_slices_Clone_int_int c.guesses c.guesses.length (Nat.le_trans hb.2.2 (by decide))) ?_
 refine zE [1, 2] ?_
 clear hK K hL
 refine zS [2] ?_
 refine zK [2, 3, 4, 5, 6] [2, 3, 4, 5, 6] ?_ ?_
 all_goals try simp only [go_sem, simprocAttr, hX]
 all_goals (first | done | rfl | (simp; done) | (simp [inR]; done) | (simp_all [inR]; done) | (simp [inR]; grind))
theorem sat_spec_l12Copy (c : Cor) (hb : c.fit) : Sat Tryz.prog 104 [.agg c.cells] [] (.agg (c.own 0 1 2 3 4)) c.blks := by
 have hX := trivial
 refine sat_mk [.cell 2 36] 0 19 Tryz.call104 Tryz.func104 Tryz.ntmps104 rfl rfl rfl rfl rfl ?_
 refine zI [0] ?_
 have hb1 := hb.2.1
 have hb2 := hb.2.2
 refine zS [1, 2] ?_
 intro ρ hL
 refine zAD [0, 1, 3, 0, 0, 16, 63, 0, 128, 0, 512, 0, 0, 4096, 14463, 32767, 65535] ?_
 intro K hK
 refine zFD [0, 1, 3, 0, 0, 16, 63, 0, 128, 0, 512, 0, 0, 4096, 14463, 32767, 65535] (sat_spec_l9Copy c.s hb.1) ?_
 refine zE [2] ?_
 clear hK K hL
 refine zK [2, 3, 4, 5, 6] [2, 3, 4, 5, 6] ?_ ?_
 all_goals try simp only [go_sem, simprocAttr, hX]
 all_goals (first | done | rfl | (simp; done) | (simp [inR]; done) | (simp_all [inR]; done) | (simp [inR]; grind))
theorem sat_math_bits_Mul64   : Sat Tryz.prog 209 [.int .u64 1, .int .u64 48] [] (.tuple [.int .u64 0, .int .u64 48]) [] := by
 have hX := trivial
 refine sat_mk [.tmp 4, .tmp 5] 0 51 Tryz.call209 Tryz.func209 Tryz.ntmps209 rfl rfl rfl rfl rfl ?_
 refine zI [0, 1] ?_
 refine zS [0, 1] ?_
 refine zS [0, 1, 6] ?_
 refine zS [0, 1, 6, 7] ?_
 refine zS [0, 1, 6, 7, 8] ?_
 refine zS [0, 1, 6, 7, 8, 9] ?_
 refine zS [0, 1, 6, 7, 8, 9, 10] ?_
 refine zS [0, 1, 6, 7, 9, 11] ?_
 refine zS [0, 1, 6, 7, 9, 11, 12] ?_
 refine zS [0, 1, 6, 7, 9, 12, 13] ?_
 refine zS [0, 1, 7, 9, 12, 13] ?_
 refine zS [0, 1, 4] ?_
 refine zS [4, 5] ?_
 refine zR ?_
 try simp only [go_sem, simprocAttr]
 all_goals (kernel_rfl)
theorem sat_math_bits_Mul   : Sat Tryz.prog 164 [.int .u64 1, .int .u64 48] [] (.tuple [.int .u64 0, .int .u64 48]) [] := by
 have hX := trivial
 refine sat_mk [.tmp 4, .tmp 5] 0 30 Tryz.call164 Tryz.func164 Tryz.ntmps164 rfl rfl rfl rfl rfl ?_
 refine zI [0, 1] ?_
 refine zS [0, 1] ?_
 intro ρ hL
 refine awl_seq ?_
 refine awl_cond rfl (fun c1 => ?_) (fun c1 => ?_)
 ·
  first | done | cases c1 | (simp at c1)
 ·
  refine awl_skip ?_
  revert ρ hL
  refine zSF [8, 9] (sat_math_bits_Mul64) ?_
  refine zS [4, 5] ?_
  refine zR ?_
  try simp only [go_sem, simprocAttr]
  all_goals (rfl)
theorem sat_slices_Repeat_int_int   : Sat Tryz.prog 97 [.sl 1 1 [.int .i64 (-1)], .int .i64 48] [] (.slice 0 0 48 0) [⟨1, ints guessNew, true, false⟩] := by
 have hX := trivial
 refine sat_mk [.tmp 4] 0 48 Tryz.call97 Tryz.func97 Tryz.ntmps97 rfl rfl rfl rfl rfl ?_
 refine zI [0, 1] ?_
 refine zS [0, 1] ?_
 refine zS [0, 1, 10] ?_
 refine zQ ?_ ?_
 ·intro c1
  try simp only [cnd] at c1
  first | done | omega | (simp at c1)
 ·intro c1
  try simp only [cnd] at c1
  intro ρ hL
  refine awl_skip ?_
  revert ρ hL
  refine zSFX [0, 5, 6] (sat_math_bits_Mul) (And.intro wu1 (And.intro wu48 hX)) ?_
  intro ρ hL
  refine zA ?_
  intro K hK
  refine zL [0, 6, 23] ?_
  clear hL
  intro ρ hL
  refine grp_orN (v := ?v1) 2 rfl [0, 6] hL.2.2 rfl (fun hb K1 hK1 => ?run) (fun hb => skA (want := false) (b := _) (by rw [hb]; rfl) hL.2.2 rfl) (fun ρ hP hM => ?_)
  case run => exact zR1
  refine zPp ?_
  clear hL hP hM
  intro hL
  refine zE [0, 6, 26] ?_
  clear hK K hL
  refine zQ ?_ ?_
  ·intro c2
   try simp only [cnd] at c2
   first | done | omega | (simp at c2; done) | (simp at c2; omega)
  ·intro c2
   try simp only [cnd] at c2
   intro ρ hL
   refine awl_skip ?_
   revert ρ hL
   refine zSX [0, 7] (And.intro wi48 hX) ?_
   intro ρ hL
   repeat refine awl_seq ?_
   refine awl_regS _ rfl fun K hK => ?_
   try simp only [go_sem, simprocAttr, hL, hX, gfill_one, wi1]
   repeat' refine And.intro (by first | rfl | omega | (simp; done)) ?_
   refine hK _ _ (.mk (awl_live' [7, 8] fun ρ hM => ?_))
   try simp only [go_sem, simprocAttr, hL, hX, gfill_one, wi1] at hM
   clear hK K hL
   revert ρ hM
   intro ρ hL
   refine awl_seq ?_
   have e1 := hL
   refine awl_loopH (fun H0 n σ G => ∃ (m : Nat), n = 48 - m ∧ (1 ≤ m) ∧ (m ≤ 48) ∧ (liveE [7] σ ρ ∧ σ 8 = .int .i64 (m : Int)) ∧ G = [⟨1, ints (gfill m), true, false⟩]) (fun H0 σ G => (liveE [7] σ ρ) ∧ G = [⟨1, ints guessNew, true, false⟩]) ((fun (m : Nat) => 48 - m) 1) ?init1 (fun n ρ G hI => ?round1) (fun ρ G hJ => ?after1)
   case init1 => exact ⟨1, rfl, (Nat.le_refl _), (by decide), ⟨liveE_refl _ _, (hL.2)⟩, rfl⟩
   case round1 =>
    clear hL
    obtain ⟨m, hn, i1_0, i1_1, hL, hG⟩ := hI
    subst hG
    try simp only [go_sem, simprocAttr, e1, hX] at hL
    revert ρ hL
    refine zS [7, 8, 37] ?_
    refine zC ?_ ?_
    ·intro c3 ρ hL
     refine awl_skip (awl_block fun R1 hw1 hR1 => ?_)
     have hm48 : m ≤ 48 := by omega
     have ha9 : (0 : Int) ≤ (m : Int) := by omega
     have hb9 : (m : Int) ≤ 48 := by omega
     have hmm : m + (48 - m) ≤ 48 := by omega
     have hfc := gfill_copy hm48
     have hfl := ints_lenF hm48
     have hw9 : IntKind.i64.wrap ((m : Int) + ((Nat.min m (48 - m) : Nat) : Int)) = ((m + Nat.min m (48 - m) : Nat) : Int) := by rw [show Nat.min m (48 - m) = min m (48 - m) from rfl, wrap64 (by omega)]; omega
     repeat refine awl_seq ?_
     refine awl_regD mixed _ rfl fun K hK => ?_
     try simp only [go_sem, simprocAttr, hL, hX, ha9, hb9, hm48, hmm, hfc, hfl, hw9, Nat.sub_zero, Nat.sub_self, Nat.max_zero, Nat.zero_max, Nat.max_self, Option.isSome_none, Option.isNone_some, Option.isNone_none]
     repeat' refine And.intro (by first | omega | (exact ⟨[0, 0, 0, 6, 0, 0, 48, 126, 255, 511], by kernel_rfl⟩) | kernel_rfl) ?_
     refine hK _ _ (.mk (awl_live' [7, 8] fun ρ hM => ?_))
     try simp only [go_sem, simprocAttr, hL, hX, ha9, hb9, hm48, hmm, hfc, hfl, hw9, Nat.sub_zero, Nat.sub_self, Nat.max_zero, Nat.zero_max, Nat.max_self, Option.isSome_none, Option.isNone_some, Option.isNone_none] at hM
     clear hK K hL
     revert ρ hM
     intro ρ hL
     refine awl_nil (blk_normal (hR1 _ _ (.mk ?_)))
     refine awl_nil ?_
     refine loop_again _ ?meas ⟨(m + Nat.min m (48 - m)), rfl, (by omega), (by rw [show Nat.min m (48 - m) = min m (48 - m) from rfl]; omega), ⟨(by simp only [go_sem, simprocAttr, hL, hX, e1]), (hL.2)⟩, rfl⟩
     case meas => subst hn; rw [show Nat.min m (48 - m) = min m (48 - m) from rfl]; omega
    ·intro c3 ρ hL
     refine awl_exit (loop_break ?_)
     exact ⟨(by simp only [go_sem, simprocAttr, hL, hX, e1]), by rw [show m = 48 by omega, gfill_end]⟩
   case after1 =>
    clear hL
    obtain ⟨hL, hG⟩ := hJ
    subst hG
    try simp only [go_sem, simprocAttr, e1, hX] at hL
    revert ρ hL
    refine zS [4] ?_
    intro ρ hL
    refine awl_ret ?_
    have h4 := hL
    refine ret_wk (Wk.norm [] (RefE.refl.upd h4 (Ref.cap _ _ _ _ 0 (Nat.zero_le _)))) ?_
    refine retK [0] [0] rfl (by simp only [go_sem, simprocAttr, hL, hX]; exact rfl) (by decide) (by first | rfl | (simp only [go_sem, simprocAttr, hL, hX]; first | done | rfl)) (by first | rfl | (simp only [go_sem, simprocAttr, hL, hX]; first | done | rfl)) ?_ ?_
    all_goals try simp only [go_sem, simprocAttr, hL, hX]
    all_goals ((try clear hR1); first | done | rfl | (simp; done) | (simp [inR]; done) | (simp_all [inR]; done) | (simp [inR]; grind))
theorem sat_impl_GuessNew   : Sat Tryz.prog 74 [] [] (.slice 0 0 48 0) [⟨1, ints guessNew, true, false⟩] := by
 have hX := trivial
 refine sat_mk [.tmp 0] 0 3 Tryz.call74 Tryz.func74 Tryz.ntmps74 rfl rfl rfl rfl rfl ?_
 refine awl_live' [] fun ρ hL => ?_
 clear hL
 have hL := trivial
 refine zA ?_
 intro K hK
 refine hK _ _ (.mk (awl_live' [] fun ρ hM => ?_))
 clear hK K hL hM
 have hM := trivial
 revert ρ hM
 intro ρ hL
 refine zA ?_
 intro K hK
 refine zF (sat_slices_Repeat_int_int) ?_
 refine zE [0] ?_
 clear hK K hL
 refine zK [1] [1] ?_ ?_
 all_goals try simp only [go_sem, simprocAttr, hX]
 all_goals (first | done | rfl | (simp; done) | (simp [inR]; done) | (simp_all [inR]; done) | (simp [inR]; grind))
section
attribute [local go_sem] ints_takeR ints_lenR List.length_replicate
theorem sat_spec_GuessNew   : Sat Tryz.prog 67 [] [] (.slice 0 0 48 0) [⟨1, ints guessNew, true, false⟩] := by
 have hX := trivial
 refine sat_mk [.tmp 0] 0 12 Tryz.call67 Tryz.func67 Tryz.ntmps67 rfl rfl rfl rfl rfl ?_
 refine awl_live' [] fun ρ hL => ?_
 clear hL
 have hL := trivial
 refine zA ?_
 intro K hK
 refine hK _ _ (.mk (awl_live' [] fun ρ hM => ?_))
 clear hK K hL hM
 have hM := trivial
 revert ρ hM
 intro ρ hL
 refine zA ?_
 intro K hK
 refine zE [1] ?_
 clear hK K hL
 intro ρ hL
 refine zA ?_
 intro K hK
 have h1 := hL
 refine hK _ _ ⟨_, _, (Wk.norm [1] (RefE.refl.upd (t := 1) (by simp only [go_sem, simprocAttr, h1]; first | done | rfl) (Ref.esl 0 ⟨Nat.le_refl _, Nat.lt_succ_self _⟩))), awl_live' [1, 2] fun ρ hM => ?_⟩
 try simp only [go_sem, simprocAttr, hL, hX] at hM
 clear hK K h1 hL
 try simp only [go_sem, simprocAttr]
 revert ρ hM
 intro ρ hL
 have e1 := hL
 refine awl_loopH (fun H0 n σ G => ∃ (i : Nat), n = 48 - i ∧ (i ≤ 48) ∧ (σ 1 = .slice 0 0 i 0 ∧ σ 2 = .int .i64 (i : Int)) ∧ G = [⟨1, ints (List.replicate i (-1)), true, false⟩]) (fun H0 σ G => (σ 1 = .slice 0 0 48 0) ∧ G = [⟨1, ints guessNew, true, false⟩]) ((fun (i : Nat) => 48 - i) 0) ?init1 (fun n ρ G hI => ?round1) (fun ρ G hJ => ?after1)
 case init1 => exact ⟨0, rfl, (Nat.zero_le _), ⟨(hL.1), (hL.2)⟩, rfl⟩
 case round1 =>
  clear hL
  obtain ⟨i, hn, i1_0, hL, hG⟩ := hI
  subst hG
  revert ρ hL
  refine zS [1, 2, 5] ?_
  refine zC ?_ ?_
  ·intro c1
   have hi1 : i < 48 := by omega
   replace hX := And.intro hi1 hX
   intro ρ hL
   refine awl_skip (awl_seq (awl_block fun R1 hw1 hR1 => ?_))
   revert ρ hL
   refine zS [1, 2] ?_
   intro ρ hL
   refine awl_nil (blk_normal (hR1 _ _ (.mk ?_)))
   have w1 : IntKind.i64.wrap ((i : Int) + 1) = ((i + 1 : Nat) : Int) := by rw [wrap64 (by omega)]; omega
   replace hX := And.intro w1 hX
   revert ρ hL
   refine zS [1, 2] ?_
   intro ρ hL
   refine awl_nil ?_
   refine loop_againW (Wk.keep [2] rfl) _ ?meas ⟨i + 1, rfl, (by omega), ⟨(by simp only [go_sem, simprocAttr, hL, hX, e1]; first | done | rfl), (by simp only [go_sem, simprocAttr, hL, hX, e1]; first | done | rfl)⟩, (by simp only [go_sem, simprocAttr, hL, hX, e1]; rw [rep_snoc])⟩
   case meas => subst hn; omega
  ·intro c1 ρ hL
   refine awl_exit (loop_break ?_)
   have h1 := hL.1
   exact ⟨(by rw [h1, show i = 48 by omega]), by rw [show i = 48 by omega]; rfl⟩
 case after1 =>
  clear hL
  obtain ⟨hL, hG⟩ := hJ
  subst hG
  revert ρ hL
  refine zS [0] ?_
  refine zK [0] [0] ?_ ?_
  all_goals try simp only [go_sem, simprocAttr, hX]
  all_goals ((try clear hR1); first | done | rfl | (simp; done) | (simp [inR]; done) | (simp_all [inR]; done) | (simp [inR]; grind))
end
end Go.Proofs.YtgpjgljgplngpaaGreatDoor.AM
