/- Bounds, keys, words. What is made of words; reach; guesses. No conditions but those each theorem bears. -/
import Derived.Test.YtgpjgljgplngpaaGreatDoorFa
import Derived.Test.YtgpjgljgplngpaaGreatDoorM4
import Derived.Test.YtgpjgljgplngpaaGreatDoorCb1
set_option linter.unusedSimpArgs false
set_option linter.unusedVariables false
namespace Go.Proofs.YtgpjgljgplngpaaGreatDoor.AM
open Go
set_option maxHeartbeats 8000000
set_option maxRecDepth 100000
theorem sat_spec_l1Min (a : Int) (b : Int)  : Sat Tryz.prog 259 [.int .i64 a, .int .i64 b] [] (.int .i64 (min a b)) [] := by
 have hX := trivial
 refine sat_mk [.tmp 4] 0 10 Tryz.call259 Tryz.func259 Tryz.ntmps259 rfl rfl rfl rfl rfl ?_
 refine zI [0, 1] ?_
 refine zS [0, 1] ?_
 refine zS [0, 1, 7] ?_
 refine zC ?_ ?_
 ·intro c1
  refine zS [4] ?_
  refine zR ?_
  try simp only [go_sem, simprocAttr]
  all_goals (congr 1; omega)
 ·intro c1 ρ hL
  refine awl_skip ?_
  revert ρ hL
  refine zS [4] ?_
  refine zR ?_
  try simp only [go_sem, simprocAttr]
  all_goals (congr 1; omega)
theorem sat_spec_l1Max (a : Int) (b : Int)  : Sat Tryz.prog 258 [.int .i64 a, .int .i64 b] [] (.int .i64 (max a b)) [] := by
 have hX := trivial
 refine sat_mk [.tmp 4] 0 10 Tryz.call258 Tryz.func258 Tryz.ntmps258 rfl rfl rfl rfl rfl ?_
 refine zI [0, 1] ?_
 refine zS [0, 1] ?_
 refine zS [0, 1, 7] ?_
 refine zC ?_ ?_
 ·intro c1
  refine zS [4] ?_
  refine zR ?_
  try simp only [go_sem, simprocAttr]
  all_goals (congr 1; omega)
 ·intro c1 ρ hL
  refine awl_skip ?_
  revert ρ hL
  refine zS [4] ?_
  refine zR ?_
  try simp only [go_sem, simprocAttr]
  all_goals (congr 1; omega)
theorem sat_spec_BoundsOk (a : Int) (b : Int)  : Sat Tryz.prog 223 [.int .i64 a, .int .i64 b] [] (.bool (boundsOk a b)) [] := by
 have hX := trivial
 refine sat_mk [.tmp 4] 0 16 Tryz.call223 Tryz.func223 Tryz.ntmps223 rfl rfl rfl rfl rfl ?_
 refine zI [0, 1] ?_
 refine zS [0, 1] ?_
 intro ρ hL
 refine zA ?_
 intro K hK
 refine zF (sat_spec_l1In _ _ _) ?_
 refine zL [0, 1, 7] ?_
 clear hL
 intro ρ hL
 refine grp_andN (v := ?v1) 2 rfl [0, 1] hL.2.2 rfl (fun hb K1 hK1 => ?run) (fun hb => skA (want := true) (b := _) (by rw [hb]; rfl) hL.2.2 rfl) (fun ρ hP hM => ?_)
 case run =>
  refine zRn ?_
  intro hL
  refine zF (sat_spec_l1In _ _ _) ?_
  exact zK1
 refine zPp ?_
 clear hL hP hM
 intro hL
 refine zL [0, 1, 11] ?_
 clear hL
 intro ρ hL
 refine grp_andN (v := ?v2) 3 rfl [] hL.2.2 rfl (fun hb K1 hK1 => ?run) (fun hb => skA (want := true) (b := _) (by rw [hb]; rfl) hL.2.2 rfl) (fun ρ hP hM => ?_)
 case run => exact zR1
 simp only [List.drop_succ_cons, List.drop_zero]
 clear hM hL
 have hL := hP
 clear hP
 try simp only [go_sem, simprocAttr, hL, hX]
 repeat' refine And.intro (by first | rfl | omega | (simp; done)) ?_
 refine zE [4] ?_
 clear hK K hL
 refine zR ?_
 try simp only [go_sem, simprocAttr]
 all_goals (rfl)
theorem sat_impl_BoundsOk (a : Int) (b : Int)  : Sat Tryz.prog 236 [.int .i64 a, .int .i64 b] [] (.bool (boundsOk a b)) [] := by
 have hX := trivial
 refine sat_mk [.tmp 4] 0 12 Tryz.call236 Tryz.func236 Tryz.ntmps236 rfl rfl rfl rfl rfl ?_
 refine zI [0, 1] ?_
 refine zS [0, 1] ?_
 intro ρ hL
 refine zA ?_
 intro K hK
 refine zF (sat_impl_in _ _ _) ?_
 refine zL [1, 8] ?_
 clear hL
 intro ρ hL
 refine grp_andN (v := ?v1) 2 rfl [] hL.2 rfl (fun hb K1 hK1 => ?run) (fun hb => skA (want := true) (b := _) (by rw [hb]; rfl) hL.2 rfl) (fun ρ hP hM => ?_)
 case run => exact zR1
 simp only [List.drop_succ_cons, List.drop_zero]
 clear hM hL
 have hL := hP
 clear hP
 try simp only [go_sem, simprocAttr, hL, hX]
 repeat' refine And.intro (by first | rfl | omega | (simp; done)) ?_
 refine zE [4] ?_
 clear hK K hL
 refine zR ?_
 try simp only [go_sem, simprocAttr]
 all_goals (congr 1; rw [Bool.eq_iff_iff, boundsOk_iff]; simp [inR]; omega)
section
attribute [local go_sem] bits64 fdiv_pow
theorem sat_spec_Pack (a : Int) (b : Int)  : Sat Tryz.prog 265 [.int .i64 a, .int .i64 b] [] (.tuple [.agg [.int .i64 (pack a b).1.1, .int .i64 (pack a b).1.2.1, .int .i64 (pack a b).1.2.2], .bool (pack a b).2]) [] := by
 have hX := trivial
 refine sat_mk [.cell 4 250, .tmp 5] 0 43 Tryz.call265 Tryz.func265 Tryz.ntmps265 rfl rfl rfl rfl rfl ?_
 refine zI [0, 1] ?_
 refine zS [0, 1, 4] ?_
 refine zSF [0, 1, 4, 12] (sat_spec_BoundsOk _ _) ?_
 refine zC ?_ ?_
 ·intro c1
  refine zS [4, 5] ?_
  refine zR ?_
  try simp only [go_sem, simprocAttr]
  all_goals (simp [pack, c1])
 ·intro c1 ρ hL
  refine awl_skip ?_
  have hb : boundsOk a b = true := by simpa using c1
  revert ρ hL
  refine zS [0, 1, 4, 6] ?_
  intro ρ hL
  have e1 := hL
  refine awl_loopH (fun H0 n σ G => ∃ (i : Nat), n = 7 - i ∧ (i ≤ 7) ∧ (packFrom a b (7 - i) i = packAt a b) ∧ (liveE [0, 1, 4] σ ρ ∧ σ 6 = .int .i64 (i : Int)) ∧ G = H0) (fun H0 σ G => (packAt a b = none) ∧ (liveE [4] σ ρ) ∧ G = H0) ((fun (i : Nat) => 7 - i) 0) ?init1 (fun n ρ G hI => ?round1) (fun ρ G hJ => ?after1)
  case init1 => exact ⟨0, rfl, (Nat.zero_le _), (rfl), ⟨liveE_refl _ _, (hL.2.2.2)⟩, rfl⟩
  case round1 =>
   clear hL
   obtain ⟨i, hn, i1_0, i1_1, hL, hG⟩ := hI
   subst hG
   try simp only [go_sem, simprocAttr, e1, hX] at hL
   revert ρ hL
   refine zS [0, 1, 4, 6, 15] ?_
   refine zC ?_ ?_
   ·intro c2
    have hi1 : i < 7 := by omega
    replace hX := And.intro hi1 hX
    intro ρ hL
    refine awl_skip (awl_seq (awl_block fun R1 hw1 hR1 => ?_))
    have hm : min i 64 = i := by omega
    have hp := pack_wraps hb hi1
    revert ρ hL
    refine zSX [0, 1, 4, 6, 7] (And.intro hm hX) ?_
    refine zDX [0, 0, 0, 6, 15, 0, 32, 127, 255, 0, 1023, 2047] [0, 1, 4, 6, 7, 8] (And.intro hm (And.intro hp hX)) ?_
    intro ρ hL
    refine zA ?_
    intro K hK
    refine zL [0, 1, 4, 6, 7, 8, 34] ?_
    clear hL
    intro ρ hL
    refine grp_andN (v := ?v1) 2 rfl [0, 1, 4, 6, 7, 8] hL.2.2.2.2.2.2 rfl (fun hb K1 hK1 => ?run) (fun hb => skA (want := true) (b := _) (by rw [hb]; rfl) hL.2.2.2.2.2.2 rfl) (fun ρ hP hM => ?_)
    case run => exact zR1
    refine zPp ?_
    clear hL hP hM
    intro hL
    refine zE [0, 1, 4, 6, 7, 8, 37] ?_
    clear hK K hL
    refine zC ?_ ?_
    ·intro c3
     refine zS [4, 5] ?_
     refine zR ?_
     try simp only [go_sem, simprocAttr]
     all_goals ((try clear hR1); simp [pack, hb, ← i1_1, packFrom_go hi1, packFits, c3, packB, packL])
    ·intro c3 ρ hL
     refine awl_skip (awl_nil (blk_normal (hR1 _ _ (.mk ?_))))
     have w1 : IntKind.i64.wrap ((i : Int) + 1) = ((i + 1 : Nat) : Int) := by rw [wrap64 (by omega)]; omega
     replace hX := And.intro w1 hX
     revert ρ hL
     refine zS [0, 1, 4, 6] ?_
     intro ρ hL
     refine awl_nil ?_
     refine loop_again _ ?meas ⟨i + 1, rfl, (by omega), (by rw [← i1_1, packFrom_go hi1, if_neg]; simp only [packFits, Bool.and_eq_true, decide_eq_true_eq]; simp only [packB, packL]; omega), ⟨(by simp only [go_sem, simprocAttr, hL, hX, e1]), (hL.2.2.2)⟩, rfl⟩
     case meas => subst hn; omega
   ·intro c2 ρ hL
    refine awl_exit (loop_break ?_)
    exact ⟨(by rw [← i1_1, show 7 - i = 0 by omega]; rfl), (by simp only [go_sem, simprocAttr, hL, hX, e1]), rfl⟩
  case after1 =>
   clear hL
   obtain ⟨j1_0, hL, hG⟩ := hJ
   subst hG
   try simp only [go_sem, simprocAttr, e1, hX] at hL
   revert ρ hL
   refine zS [4, 5] ?_
   refine zR ?_
   try simp only [go_sem, simprocAttr]
   all_goals ((try clear hR1); simp [pack, hb, j1_0])
end
section
attribute [local go_sem] bits64 fdiv_pow
theorem sat_impl_Pack (a : Int) (b : Int)  : Sat Tryz.prog 272 [.int .i64 a, .int .i64 b] [] (.tuple [.agg [.int .i64 (pack a b).1.1, .int .i64 (pack a b).1.2.1, .int .i64 (pack a b).1.2.2], .bool (pack a b).2]) [] := by
 have hX := trivial
 refine sat_mk [.cell 4 250, .tmp 5] 0 45 Tryz.call272 Tryz.func272 Tryz.ntmps272 rfl rfl rfl rfl rfl ?_
 refine zI [0, 1] ?_
 refine zS [0, 1, 4] ?_
 refine zSF [0, 1, 4, 13] (sat_impl_BoundsOk _ _) ?_
 refine zC ?_ ?_
 ·intro c1
  refine zS [4, 5] ?_
  refine zR ?_
  try simp only [go_sem, simprocAttr]
  all_goals (simp [pack, c1])
 ·intro c1 ρ hL
  refine awl_skip ?_
  have hb : boundsOk a b = true := by simpa using c1
  revert ρ hL
  refine zS [0, 1, 4, 15] ?_
  intro ρ hL
  have e1 := hL
  refine awl_loopH (fun H0 n σ G => ∃ (i : Nat), n = 7 - i ∧ (i ≤ 7) ∧ (packFrom a b (7 - i) i = packAt a b) ∧ (liveE [0, 1, 4] σ ρ ∧ σ 15 = .int .i64 (i : Int)) ∧ G = H0) (fun H0 σ G => (packAt a b = none) ∧ (liveE [4] σ ρ) ∧ G = H0) ((fun (i : Nat) => 7 - i) 0) ?init1 (fun n ρ G hI => ?round1) (fun ρ G hJ => ?after1)
  case init1 => exact ⟨0, rfl, (Nat.zero_le _), (rfl), ⟨liveE_refl _ _, (hL.2.2.2)⟩, rfl⟩
  case round1 =>
   clear hL
   obtain ⟨i, hn, i1_0, i1_1, hL, hG⟩ := hI
   subst hG
   try simp only [go_sem, simprocAttr, e1, hX] at hL
   revert ρ hL
   refine zS [0, 1, 4, 15, 16] ?_
   refine zC ?_ ?_
   ·intro c2
    have hi1 : i < 7 := by omega
    replace hX := And.intro hi1 hX
    intro ρ hL
    refine awl_skip (awl_seq (awl_block fun R1 hw1 hR1 => ?_))
    have hm : min i 64 = i := by omega
    have hp := pack_wraps hb hi1
    have hq := pack_tdiv hb hi1
    revert ρ hL
    refine zS [0, 1, 4, 6, 15] ?_
    refine zSX [0, 1, 4, 6, 7, 15] (And.intro hm (And.intro hp hX)) ?_
    refine zSX [0, 1, 4, 6, 7, 8, 15] (And.intro hm (And.intro hp (And.intro hq hX))) ?_
    refine zSX [0, 1, 4, 6, 8, 9, 15] (And.intro hm (And.intro hp (And.intro hq hX))) ?_
    intro ρ hL
    refine zA ?_
    intro K hK
    refine zL [0, 1, 4, 6, 8, 9, 15, 35] ?_
    clear hL
    intro ρ hL
    refine grp_andN (v := ?v1) 2 rfl [0, 1, 4, 6, 8, 9, 15] hL.2.2.2.2.2.2.2 rfl (fun hb K1 hK1 => ?run) (fun hb => skA (want := true) (b := _) (by rw [hb]; rfl) hL.2.2.2.2.2.2.2 rfl) (fun ρ hP hM => ?_)
    case run => exact zR1
    refine zPp ?_
    clear hL hP hM
    intro hL
    refine zE [0, 1, 4, 6, 8, 9, 15, 38] ?_
    clear hK K hL
    refine zC ?_ ?_
    ·intro c3
     refine zS [4, 5] ?_
     refine zR ?_
     try simp only [go_sem, simprocAttr]
     all_goals ((try clear hR1); simp [pack, hb, ← i1_1, packFrom_go hi1, packFits, c3, packB, packL])
    ·intro c3 ρ hL
     refine awl_skip (awl_nil (blk_normal (hR1 _ _ (.mk ?_))))
     have w1 : IntKind.i64.wrap ((i : Int) + 1) = ((i + 1 : Nat) : Int) := by rw [wrap64 (by omega)]; omega
     replace hX := And.intro w1 hX
     revert ρ hL
     refine zS [0, 1, 4, 15] ?_
     intro ρ hL
     refine awl_nil ?_
     refine loop_again _ ?meas ⟨i + 1, rfl, (by omega), (by rw [← i1_1, packFrom_go hi1, if_neg]; simp only [packFits, Bool.and_eq_true, decide_eq_true_eq]; simp only [packB, packL]; omega), ⟨(by simp only [go_sem, simprocAttr, hL, hX, e1]), (hL.2.2.2)⟩, rfl⟩
     case meas => subst hn; omega
   ·intro c2 ρ hL
    refine awl_exit (loop_break ?_)
    exact ⟨(by rw [← i1_1, show 7 - i = 0 by omega]; rfl), (by simp only [go_sem, simprocAttr, hL, hX, e1]), rfl⟩
  case after1 =>
   clear hL
   obtain ⟨j1_0, hL, hG⟩ := hJ
   subst hG
   try simp only [go_sem, simprocAttr, e1, hX] at hL
   revert ρ hL
   refine zS [4, 5] ?_
   refine zR ?_
   try simp only [go_sem, simprocAttr]
   all_goals ((try clear hR1); simp [pack, hb, j1_0])
end
section
attribute [local go_sem] bits64
theorem sat_spec_Unpack (e : Int) (b : Int) (l : Int)  : Sat Tryz.prog 266 [.agg [.int .i64 e, .int .i64 b, .int .i64 l]] [] (.tuple [.int .i64 (unpack (e, b, l)).1, .int .i64 (unpack (e, b, l)).2.1, .bool (unpack (e, b, l)).2.2]) [] := by
 have hX := trivial
 refine sat_mk [.tmp 2, .tmp 3, .tmp 4] 0 35 Tryz.call266 Tryz.func266 Tryz.ntmps266 rfl rfl rfl rfl rfl ?_
 refine zI [0] ?_
 refine zS [1] ?_
 intro ρ hL
 refine zA ?_
 intro K hK
 refine zF (sat_spec_l1In _ _ _) ?_
 refine zL [1, 9] ?_
 clear hL
 intro ρ hL
 refine grp_orN (v := ?v1) 4 rfl [1] hL.2 rfl (fun hb K1 hK1 => ?run) (fun hb => skA (want := false) (b := _) (by rw [hb]; rfl) hL.2 rfl) (fun ρ hP hM => ?_)
 case run =>
  refine zRn ?_
  intro hL
  refine zF (sat_spec_l1In _ _ _) ?_
  exact zK1
 refine zPp ?_
 clear hL hP hM
 intro hL
 refine zL [1, 15] ?_
 clear hL
 intro ρ hL
 refine grp_orN (v := ?v2) 4 rfl [1] hL.2 rfl (fun hb K1 hK1 => ?run) (fun hb => skA (want := false) (b := _) (by rw [hb]; rfl) hL.2 rfl) (fun ρ hP hM => ?_)
 case run =>
  refine zRn ?_
  intro hL
  refine zF (sat_spec_l1In _ _ _) ?_
  exact zK1
 refine zPp ?_
 clear hL hP hM
 intro hL
 refine zE [1, 20] ?_
 clear hK K hL
 refine zC ?_ ?_
 ·intro c1
  refine zS [2, 3, 4] ?_
  refine zR ?_
  try simp only [go_sem, simprocAttr]
  all_goals (rw [unpack, if_neg (by rintro ⟨p, q, r⟩; simp_all)])
 ·intro c1 ρ hL
  refine awl_skip ?_
  have hu := unpack_wraps (e := e) (b := b) (l := l) (by simp_all) (by simp_all) (by simp_all)
  have hX0 := hX
  replace hX := And.intro hu hX
  refine zAD [0, 1, 0, 4, 15, 0, 32, 0, 128, 480, 0, 1024, 4064, 8160, 16383, 32767, 65535] ?_
  intro K hK
  refine zFD [0, 1, 0, 4, 15, 0, 32, 0, 128, 480, 0, 1024, 4064, 8160, 16383, 32767, 65535] (sat_spec_l1Min _ _) ?_
  refine zE [2, 3, 4] ?_
  clear hK K hL
  clear hX
  have hX := hX0
  clear hX0
  refine zR ?_
  try simp only [go_sem, simprocAttr]
  all_goals (simp only [unpack, c1.1.1, c1.1.2, c1.2, and_self, if_true])
end
section
attribute [local go_sem] bits64
theorem sat_impl_Unpack (e : Int) (b : Int) (l : Int)  : Sat Tryz.prog 273 [.agg [.int .i64 e, .int .i64 b, .int .i64 l]] [] (.tuple [.int .i64 (unpack (e, b, l)).1, .int .i64 (unpack (e, b, l)).2.1, .bool (unpack (e, b, l)).2.2]) [] := by
 have hX := trivial
 refine sat_mk [.tmp 2, .tmp 3, .tmp 4] 0 35 Tryz.call273 Tryz.func273 Tryz.ntmps273 rfl rfl rfl rfl rfl ?_
 refine zI [0] ?_
 refine zS [1] ?_
 intro ρ hL
 refine zA ?_
 intro K hK
 refine zF (sat_impl_in _ _ _) ?_
 refine zL [1, 9] ?_
 clear hL
 intro ρ hL
 refine grp_orN (v := ?v1) 4 rfl [1] hL.2 rfl (fun hb K1 hK1 => ?run) (fun hb => skA (want := false) (b := _) (by rw [hb]; rfl) hL.2 rfl) (fun ρ hP hM => ?_)
 case run =>
  refine zRn ?_
  intro hL
  refine zF (sat_impl_in _ _ _) ?_
  exact zK1
 refine zPp ?_
 clear hL hP hM
 intro hL
 refine zL [1, 15] ?_
 clear hL
 intro ρ hL
 refine grp_orN (v := ?v2) 4 rfl [1] hL.2 rfl (fun hb K1 hK1 => ?run) (fun hb => skA (want := false) (b := _) (by rw [hb]; rfl) hL.2 rfl) (fun ρ hP hM => ?_)
 case run =>
  refine zRn ?_
  intro hL
  refine zF (sat_impl_in _ _ _) ?_
  exact zK1
 refine zPp ?_
 clear hL hP hM
 intro hL
 refine zE [1, 20] ?_
 clear hK K hL
 refine zC ?_ ?_
 ·intro c1
  refine zS [2, 3, 4] ?_
  refine zR ?_
  try simp only [go_sem, simprocAttr]
  all_goals (rw [unpack, if_neg (by rintro ⟨p, q, r⟩; simp_all)])
 ·intro c1 ρ hL
  refine awl_skip ?_
  have hu := unpack_wraps (e := e) (b := b) (l := l) (by simp_all) (by simp_all) (by simp_all)
  revert ρ hL
  refine zDX [0, 1, 0, 4, 15, 0, 32, 0, 128, 480, 0, 1024, 4064, 8160, 31, 32767, 65535] [2, 3, 4] (And.intro hu hX) ?_
  refine zR ?_
  try simp only [go_sem, simprocAttr]
  all_goals (simp only [unpack, c1.1.1, c1.1.2, c1.2, and_self, if_true])
end
theorem sat_spec_Wide (a : Int) (b : Int)  : Sat Tryz.prog 222 [.int .i64 a, .int .i64 b] [] (.tuple [.int .i64 (wide a b).1, .int .i64 (wide a b).2]) [] := by
 have hX := trivial
 refine sat_mk [.tmp 4, .tmp 5] 0 30 Tryz.call222 Tryz.func222 Tryz.ntmps222 rfl rfl rfl rfl rfl ?_
 refine zI [0, 1] ?_
 refine zS [0, 1] ?_
 refine zSF [0, 1, 6, 7] (sat_spec_Pack _ _) ?_
 refine zS [0, 1, 6, 18] ?_
 refine zC ?_ ?_
 ·intro c1
  refine zSF [21] (sat_spec_BoundsOk _ _) ?_
  refine zC ?_ ?_
  ·intro c2
   refine zS [4, 5] ?_
   refine zR ?_
   try simp only [go_sem, simprocAttr]
   all_goals (simp_all [wide])
  ·intro c2 ρ hL
   refine awl_skip ?_
   revert ρ hL
   refine zS [4, 5] ?_
   refine zR ?_
   try simp only [go_sem, simprocAttr]
   all_goals (simp_all [wide])
 ·intro c1 ρ hL
  refine awl_skip ?_
  revert ρ hL
  refine zSF [8, 9] (sat_spec_Unpack (pack a b).1.1 (pack a b).1.2.1 (pack a b).1.2.2) ?_
  refine zS [4, 5] ?_
  refine zR ?_
  try simp only [go_sem, simprocAttr]
  all_goals (simp_all [wide])
theorem sat_impl_Wide (a : Int) (b : Int)  : Sat Tryz.prog 235 [.int .i64 a, .int .i64 b] [] (.tuple [.int .i64 (wide a b).1, .int .i64 (wide a b).2]) [] := by
 have hX := trivial
 refine sat_mk [.tmp 4, .tmp 5] 0 31 Tryz.call235 Tryz.func235 Tryz.ntmps235 rfl rfl rfl rfl rfl ?_
 refine zI [0, 1] ?_
 refine zS [0, 1] ?_
 refine zSF [0, 1, 14] (sat_impl_BoundsOk _ _) ?_
 refine zC ?_ ?_
 ·intro c1
  refine zS [4, 5] ?_
  refine zR ?_
  try simp only [go_sem, simprocAttr]
  all_goals (simp_all [wide, pack])
 ·intro c1 ρ hL
  refine awl_skip ?_
  revert ρ hL
  refine zSF [6, 7] (sat_impl_Pack _ _) ?_
  refine zS [6, 22] ?_
  refine zC ?_ ?_
  ·intro c2
   refine zS [4, 5] ?_
   refine zR ?_
   try simp only [go_sem, simprocAttr]
   all_goals (simp_all [wide])
  ·intro c2 ρ hL
   refine awl_skip ?_
   revert ρ hL
   refine zSF [8, 9] (sat_impl_Unpack (pack a b).1.1 (pack a b).1.2.1 (pack a b).1.2.2) ?_
   refine zS [4, 5] ?_
   refine zR ?_
   try simp only [go_sem, simprocAttr]
   all_goals (simp_all [wide])
theorem sat_spec_Exact (a : Int) (b : Int)  : Sat Tryz.prog 180 [.int .i64 a, .int .i64 b] [] (.bool (exact a b)) [] := by
 have hX := trivial
 refine sat_mk [.tmp 4] 0 26 Tryz.call180 Tryz.func180 Tryz.ntmps180 rfl rfl rfl rfl rfl ?_
 refine zI [0, 1] ?_
 refine zS [0, 1] ?_
 refine zSF [0, 1, 5, 6] (sat_spec_Wide _ _) ?_
 intro ρ hL
 refine zA ?_
 intro K hK
 refine zF (sat_spec_BoundsOk _ _) ?_
 refine zL [0, 1, 5, 6, 16] ?_
 clear hL
 intro ρ hL
 refine grp_andN (v := ?v1) 3 rfl [1, 6] hL.2.2.2.2 rfl (fun hb K1 hK1 => ?run) (fun hb => skA (want := true) (b := _) (by rw [hb]; rfl) hL.2.2.2.2 rfl) (fun ρ hP hM => ?_)
 case run => exact zR1
 refine zPp ?_
 clear hL hP hM
 intro hL
 refine zL [1, 6, 21] ?_
 clear hL
 intro ρ hL
 refine grp_andN (v := ?v2) 3 rfl [] hL.2.2 rfl (fun hb K1 hK1 => ?run) (fun hb => skA (want := true) (b := _) (by rw [hb]; rfl) hL.2.2 rfl) (fun ρ hP hM => ?_)
 case run => exact zR1
 simp only [List.drop_succ_cons, List.drop_zero]
 clear hM hL
 have hL := hP
 clear hP
 try simp only [go_sem, simprocAttr, hL, hX]
 repeat' refine And.intro (by first | rfl | omega | (simp; done)) ?_
 refine zE [4] ?_
 clear hK K hL
 refine zR ?_
 try simp only [go_sem, simprocAttr]
 all_goals (first | done | rfl | (simp; done) | (simp [exact]; done) | (simp_all [exact]; done) | (simp [exact]; grind))
theorem sat_impl_Exact (a : Int) (b : Int)  : Sat Tryz.prog 191 [.int .i64 a, .int .i64 b] [] (.bool (exact a b)) [] := by
 have hX := trivial
 refine sat_mk [.tmp 4] 0 26 Tryz.call191 Tryz.func191 Tryz.ntmps191 rfl rfl rfl rfl rfl ?_
 refine zI [0, 1] ?_
 refine zS [0, 1] ?_
 refine zSF [0, 1, 5, 6] (sat_impl_Wide _ _) ?_
 intro ρ hL
 refine zA ?_
 intro K hK
 refine zF (sat_impl_BoundsOk _ _) ?_
 refine zL [0, 1, 5, 6, 16] ?_
 clear hL
 intro ρ hL
 refine grp_andN (v := ?v1) 3 rfl [1, 6] hL.2.2.2.2 rfl (fun hb K1 hK1 => ?run) (fun hb => skA (want := true) (b := _) (by rw [hb]; rfl) hL.2.2.2.2 rfl) (fun ρ hP hM => ?_)
 case run => exact zR1
 refine zPp ?_
 clear hL hP hM
 intro hL
 refine zL [1, 6, 21] ?_
 clear hL
 intro ρ hL
 refine grp_andN (v := ?v2) 3 rfl [] hL.2.2 rfl (fun hb K1 hK1 => ?run) (fun hb => skA (want := true) (b := _) (by rw [hb]; rfl) hL.2.2 rfl) (fun ρ hP hM => ?_)
 case run => exact zR1
 simp only [List.drop_succ_cons, List.drop_zero]
 clear hM hL
 have hL := hP
 clear hP
 try simp only [go_sem, simprocAttr, hL, hX]
 repeat' refine And.intro (by first | rfl | omega | (simp; done)) ?_
 refine zE [4] ?_
 clear hK K hL
 refine zR ?_
 try simp only [go_sem, simprocAttr]
 all_goals (first | done | rfl | (simp; done) | (simp [exact]; done) | (simp_all [exact]; done) | (simp [exact]; grind))
theorem sat_spec_KeyOk (k : Key)  : Sat Tryz.prog 117 [.agg k.cells] [] (.bool (keyOk k)) [] := by
 have hX := trivial
 refine sat_mk [.tmp 2] 0 18 Tryz.call117 Tryz.func117 Tryz.ntmps117 rfl rfl rfl rfl rfl ?_
 refine zI [0] ?_
 refine zS [1] ?_
 intro ρ hL
 refine zA ?_
 intro K hK
 refine zF (sat_spec_Exact _ _) ?_
 refine zL [1, 8] ?_
 clear hL
 intro ρ hL
 refine grp_andN (v := ?v1) 3 rfl [1] hL.2 rfl (fun hb K1 hK1 => ?run) (fun hb => skA (want := true) (b := _) (by rw [hb]; rfl) hL.2 rfl) (fun ρ hP hM => ?_)
 case run =>
  refine zRn ?_
  intro hL
  refine zF (sat_spec_l1In _ _ _) ?_
  exact zK1
 refine zPp ?_
 clear hL hP hM
 intro hL
 refine zL [1, 13] ?_
 clear hL
 intro ρ hL
 refine grp_andN (v := ?v2) 3 rfl [] hL.2 rfl (fun hb K1 hK1 => ?run) (fun hb => skA (want := true) (b := _) (by rw [hb]; rfl) hL.2 rfl) (fun ρ hP hM => ?_)
 case run =>
  refine zRn ?_
  intro hL
  refine zF (sat_spec_l1In _ _ _) ?_
  exact zK1
 simp only [List.drop_succ_cons, List.drop_zero]
 clear hM hL
 have hL := hP
 clear hP
 try simp only [go_sem, simprocAttr, hL, hX]
 repeat' refine And.intro (by first | rfl | omega | (simp; done)) ?_
 refine zE [2] ?_
 clear hK K hL
 refine zR ?_
 try simp only [go_sem, simprocAttr]
 all_goals (rfl)
theorem sat_impl_KeyOk (k : Key)  : Sat Tryz.prog 143 [.agg k.cells] [] (.bool (keyOk k)) [] := by
 have hX := trivial
 refine sat_mk [.tmp 2] 0 18 Tryz.call143 Tryz.func143 Tryz.ntmps143 rfl rfl rfl rfl rfl ?_
 refine zI [0] ?_
 refine zS [1] ?_
 intro ρ hL
 refine zA ?_
 intro K hK
 refine zF (sat_impl_Exact _ _) ?_
 refine zL [1, 8] ?_
 clear hL
 intro ρ hL
 refine grp_andN (v := ?v1) 3 rfl [1] hL.2 rfl (fun hb K1 hK1 => ?run) (fun hb => skA (want := true) (b := _) (by rw [hb]; rfl) hL.2 rfl) (fun ρ hP hM => ?_)
 case run =>
  refine zRn ?_
  intro hL
  refine zF (sat_impl_in _ _ _) ?_
  exact zK1
 refine zPp ?_
 clear hL hP hM
 intro hL
 refine zL [1, 13] ?_
 clear hL
 intro ρ hL
 refine grp_andN (v := ?v2) 3 rfl [] hL.2 rfl (fun hb K1 hK1 => ?run) (fun hb => skA (want := true) (b := _) (by rw [hb]; rfl) hL.2 rfl) (fun ρ hP hM => ?_)
 case run =>
  refine zRn ?_
  intro hL
  refine zF (sat_impl_in _ _ _) ?_
  exact zK1
 simp only [List.drop_succ_cons, List.drop_zero]
 clear hM hL
 have hL := hP
 clear hP
 try simp only [go_sem, simprocAttr, hL, hX]
 repeat' refine And.intro (by first | rfl | omega | (simp; done)) ?_
 refine zE [2] ?_
 clear hK K hL
 refine zR ?_
 try simp only [go_sem, simprocAttr]
 all_goals (rfl)
theorem sat_spec_WordOk (w : Word)  : Sat Tryz.prog 57 [.agg w.cells] [] (.bool (wordOk w)) [] := by
 have hX := trivial
 refine sat_mk [.tmp 2] 0 26 Tryz.call57 Tryz.func57 Tryz.ntmps57 rfl rfl rfl rfl rfl ?_
 refine zI [0] ?_
 refine zS [1] ?_
 intro ρ hL
 refine zA ?_
 intro K hK
 refine zF (sat_spec_l1In _ _ _) ?_
 refine zL [1, 6] ?_
 clear hL
 intro ρ hL
 refine grp_andN (v := ?v1) 18 rfl [] hL.2 rfl (fun hb K1 hK1 => ?run) (fun hb => skA (want := true) (b := _) (by rw [hb]; rfl) hL.2 rfl) (fun ρ hP hM => ?_)
 case run =>
  refine zRn ?_
  intro hL
  have g2 := hL
  have hK1_2 := hK1
  refine zL [1, 6, 9] ?_
  clear hL
  intro ρ hL
  refine grp_andGN (v := ?v3) 3 6 true rfl hL.2.1 [1, 6] rfl hL.2.2 rfl (fun hb K1 hK1 => ?run) (fun hb => skA (want := true) (b := _) (by rw [hb]; rfl) hL.2.2 rfl) (fun ρ hP hM => ?_)
  case run =>
   refine zRn ?_
   intro hL
   refine zF (sat_spec_KeyOk w.key) ?_
   exact zK1
  refine zPp ?_
  clear hL hP hM
  intro hL
  refine zL [1, 6, 14] ?_
  clear hL
  intro ρ hL
  refine grp_orGN (v := ?v4) 9 6 true rfl hL.2.1 [6] rfl hL.2.2 rfl (fun hb K1 hK1 => ?run) (fun hb => skA (want := false) (b := _) (by rw [hb]; rfl) hL.2.2 rfl) (fun ρ hP hM => ?_)
  case run =>
   refine zRn ?_
   intro hL
   have g5 := hL
   have hK1_5 := hK1
   refine zL [1, 6, 14, 18] ?_
   clear hL
   intro ρ hL
   refine grp_andGN (v := ?v6) 4 14 false rfl hL.2.2.1 [6, 14] rfl hL.2.2.2 rfl (fun hb K1 hK1 => ?run) (fun hb => skA (want := true) (b := _) (by rw [hb]; rfl) hL.2.2.2 rfl) (fun ρ hP hM => ?_)
   case run => exact zR1
   refine zPp ?_
   clear hL hP hM
   intro hL
   refine hK1_5 _ ?_ ?_ ?_ <;> simp only [go_sem, simprocAttr, hL, hX, g5] <;> exact rfl
  refine zPp ?_
  clear hL hP hM
  intro hL
  refine hK1_2 _ ?_ ?_ ?_ <;> simp only [go_sem, simprocAttr, hL, hX, g2] <;> exact rfl
 simp only [List.drop_succ_cons, List.drop_zero]
 clear hM hL
 have hL := hP
 clear hP
 try simp only [go_sem, simprocAttr, hL, hX]
 repeat' refine And.intro (by first | rfl | omega | (simp; done)) ?_
 refine zE [2] ?_
 clear hK K hL
 refine zR ?_
 try simp only [go_sem, simprocAttr]
 all_goals (obtain ⟨n, is, ⟨b, t, p, k⟩⟩ := w; cases is <;> simp [wordOk, noKey])
theorem sat_impl_WordOk (w : Word)  : Sat Tryz.prog 93 [.agg w.cells] [] (.bool (wordOk w)) [] := by
 have hX := trivial
 refine sat_mk [.tmp 2] 0 22 Tryz.call93 Tryz.func93 Tryz.ntmps93 rfl rfl rfl rfl rfl ?_
 refine zI [0] ?_
 refine zS [1] ?_
 refine zS [1, 4] ?_
 refine zC ?_ ?_
 ·intro c1 ρ hL
  refine zA ?_
  intro K hK
  refine zF (sat_impl_in _ _ _) ?_
  refine zL [1, 8] ?_
  clear hL
  intro ρ hL
  refine grp_andN (v := ?v1) 3 rfl [] hL.2 rfl (fun hb K1 hK1 => ?run) (fun hb => skA (want := true) (b := _) (by rw [hb]; rfl) hL.2 rfl) (fun ρ hP hM => ?_)
  case run =>
   refine zRn ?_
   intro hL
   refine zF (sat_impl_KeyOk w.key) ?_
   exact zK1
  simp only [List.drop_succ_cons, List.drop_zero]
  clear hM hL
  have hL := hP
  clear hP
  try simp only [go_sem, simprocAttr, hL, hX]
  repeat' refine And.intro (by first | rfl | omega | (simp; done)) ?_
  refine zE [2] ?_
  clear hK K hL
  refine zR ?_
  try simp only [go_sem, simprocAttr]
  all_goals (simp_all [wordOk])
 ·intro c1 ρ hL
  refine awl_skip ?_
  refine zA ?_
  intro K hK
  refine zF (sat_impl_in _ _ _) ?_
  refine zL [1, 16] ?_
  clear hL
  intro ρ hL
  refine grp_andN (v := ?v2) 4 rfl [] hL.2 rfl (fun hb K1 hK1 => ?run) (fun hb => skA (want := true) (b := _) (by rw [hb]; rfl) hL.2 rfl) (fun ρ hP hM => ?_)
  case run => exact zR1
  simp only [List.drop_succ_cons, List.drop_zero]
  clear hM hL
  have hL := hP
  clear hP
  try simp only [go_sem, simprocAttr, hL, hX]
  repeat' refine And.intro (by first | rfl | omega | (simp; done)) ?_
  refine zE [2] ?_
  clear hK K hL
  refine zR ?_
  try simp only [go_sem, simprocAttr]
  all_goals (obtain ⟨n, is, ⟨b, t, p, k⟩⟩ := w; cases is <;> simp_all [wordOk, noKey])
theorem sat_spec_l4Open (w : Word)  : Sat Tryz.prog 264 [.agg w.cells] [] (.bool (opened w)) [] := by
 have hX := trivial
 refine sat_mk [.tmp 2] 0 15 Tryz.call264 Tryz.func264 Tryz.ntmps264 rfl rfl rfl rfl rfl ?_
 refine zI [0] ?_
 refine zS [1] ?_
 intro ρ hL
 refine zA ?_
 intro K hK
 refine zF (sat_spec_WordOk _) ?_
 refine zL [1, 5] ?_
 clear hL
 intro ρ hL
 refine grp_andN (v := ?v1) 2 rfl [1] hL.2 rfl (fun hb K1 hK1 => ?run) (fun hb => skA (want := true) (b := _) (by rw [hb]; rfl) hL.2 rfl) (fun ρ hP hM => ?_)
 case run => exact zR1
 refine zPp ?_
 clear hL hP hM
 intro hL
 refine zL [1, 9] ?_
 clear hL
 intro ρ hL
 refine grp_andN (v := ?v2) 4 rfl [] hL.2 rfl (fun hb K1 hK1 => ?run) (fun hb => skA (want := true) (b := _) (by rw [hb]; rfl) hL.2 rfl) (fun ρ hP hM => ?_)
 case run => exact zR1
 simp only [List.drop_succ_cons, List.drop_zero]
 clear hM hL
 have hL := hP
 clear hP
 try simp only [go_sem, simprocAttr, hL, hX]
 repeat' refine And.intro (by first | rfl | omega | (simp; done)) ?_
 refine zE [2] ?_
 clear hK K hL
 refine zR ?_
 try simp only [go_sem, simprocAttr]
 all_goals (first | done | rfl | (simp; done) | (simp [opened]; done) | (simp_all [opened]; done) | (simp [opened]; grind))
theorem sat_impl_open (w : Word)  : Sat Tryz.prog 293 [.agg w.cells] [] (.bool (opened w)) [] := by
 have hX := trivial
 refine sat_mk [.tmp 2] 0 15 Tryz.call293 Tryz.func293 Tryz.ntmps293 rfl rfl rfl rfl rfl ?_
 refine zI [0] ?_
 refine zS [1] ?_
 intro ρ hL
 refine zA ?_
 intro K hK
 refine zF (sat_impl_WordOk _) ?_
 refine zL [1, 5] ?_
 clear hL
 intro ρ hL
 refine grp_andN (v := ?v1) 2 rfl [1] hL.2 rfl (fun hb K1 hK1 => ?run) (fun hb => skA (want := true) (b := _) (by rw [hb]; rfl) hL.2 rfl) (fun ρ hP hM => ?_)
 case run => exact zR1
 refine zPp ?_
 clear hL hP hM
 intro hL
 refine zL [1, 9] ?_
 clear hL
 intro ρ hL
 refine grp_andN (v := ?v2) 4 rfl [] hL.2 rfl (fun hb K1 hK1 => ?run) (fun hb => skA (want := true) (b := _) (by rw [hb]; rfl) hL.2 rfl) (fun ρ hP hM => ?_)
 case run => exact zR1
 simp only [List.drop_succ_cons, List.drop_zero]
 clear hM hL
 have hL := hP
 clear hP
 try simp only [go_sem, simprocAttr, hL, hX]
 repeat' refine And.intro (by first | rfl | omega | (simp; done)) ?_
 refine zE [2] ?_
 clear hK K hL
 refine zR ?_
 try simp only [go_sem, simprocAttr]
 all_goals (first | done | rfl | (simp; done) | (simp [opened]; done) | (simp_all [opened]; done) | (simp [opened]; grind))
theorem sat_spec_Point (w : Word) (n : Int)  : Sat Tryz.prog 220 [.agg w.cells, .int .i64 n] [] (.agg (Word.cells (point w n))) [] := by
 have hX := trivial
 refine sat_mk [.cell 4 27] 0 14 Tryz.call220 Tryz.func220 Tryz.ntmps220 rfl rfl rfl rfl rfl ?_
 refine zI [0, 1] ?_
 refine zS [1, 2, 4] ?_
 refine zSF [1, 2, 4, 7] (sat_spec_l4Open _) ?_
 refine zC ?_ ?_
 ·intro c1
  refine zSF [4] (sat_spec_Plain _) ?_
  refine zR ?_
  try simp only [go_sem, simprocAttr]
  all_goals (first | done | rfl | (simp; done) | (simp [point, plain, low, band, noKey]; done) | (simp_all [point, plain, low, band, noKey]; done) | (simp [point, plain, low, band, noKey]; grind))
 ·intro c1 ρ hL
  refine awl_skip ?_
  revert ρ hL
  refine zS [2, 4] ?_
  refine zS [4] ?_
  refine zR ?_
  try simp only [go_sem, simprocAttr]
  all_goals (have := opened_is (by simpa using c1); simp_all [point, plain, low, band, noKey])
theorem sat_impl_Point (w : Word) (n : Int)  : Sat Tryz.prog 276 [.agg w.cells, .int .i64 n] [] (.agg (Word.cells (point w n))) [] := by
 have hX := trivial
 refine sat_mk [.cell 4 27] 0 15 Tryz.call276 Tryz.func276 Tryz.ntmps276 rfl rfl rfl rfl rfl ?_
 refine zI [0, 1] ?_
 refine zS [1, 2, 4] ?_
 refine zSF [2, 4, 5] (sat_impl_Plain _) ?_
 refine zSF [2, 4, 5, 9] (sat_impl_open _) ?_
 refine zC ?_ ?_
 ·intro c1
  refine zD [0, 1, 0, 4, 15, 31] [4, 5] ?_
  refine zS [4] ?_
  refine zR ?_
  try simp only [go_sem, simprocAttr]
  all_goals (have := opened_is (by simpa using c1); simp_all [point, plain, low, band, noKey])
 ·intro c1 ρ hL
  refine awl_skip ?_
  revert ρ hL
  refine zS [4] ?_
  refine zR ?_
  try simp only [go_sem, simprocAttr]
  all_goals (first | done | rfl | (simp; done) | (simp [point, plain, low, band, noKey]; done) | (simp_all [point, plain, low, band, noKey]; done) | (simp [point, plain, low, band, noKey]; grind))
theorem sat_spec_Bare (w : Word)  : Sat Tryz.prog 221 [.agg w.cells] [] (.agg (Word.cells (bare w))) [] := by
 have hX := trivial
 refine sat_mk [.cell 2 27] 0 6 Tryz.call221 Tryz.func221 Tryz.ntmps221 rfl rfl rfl rfl rfl ?_
 refine zI [0] ?_
 refine zS [1, 2] ?_
 refine zSF [2] (sat_spec_Plain _) ?_
 refine zR ?_
 try simp only [go_sem, simprocAttr]
 all_goals (simp [bare, plain, low, noKey])
theorem sat_spec_Weaken (w : Word) (n : Int)  : Sat Tryz.prog 287 [.agg w.cells, .int .i64 n] [] (.agg (Word.cells (weaken w n))) [] := by
 have hX := trivial
 refine sat_mk [.cell 4 27] 0 19 Tryz.call287 Tryz.func287 Tryz.ntmps287 rfl rfl rfl rfl rfl ?_
 refine zI [0, 1] ?_
 refine zS [1, 2, 4] ?_
 refine zSF [1, 2, 4, 7] (sat_spec_l4Open _) ?_
 refine zC ?_ ?_
 ·intro c1
  refine zSF [4] (sat_spec_Bare _) ?_
  refine zR ?_
  try simp only [go_sem, simprocAttr]
  all_goals (first | done | rfl | (simp; done) | (simp [weaken, bare, plain, low, band, noKey]; done) | (simp_all [weaken, bare, plain, low, band, noKey]; done) | (simp [weaken, bare, plain, low, band, noKey]; grind))
 ·intro c1 ρ hL
  refine awl_skip ?_
  revert ρ hL
  refine zS [2, 4] ?_
  refine zS [4] ?_
  refine zR ?_
  try simp only [go_sem, simprocAttr]
  all_goals (first | done | rfl | (simp; done) | (simp [weaken, bare, plain, low, band, noKey]; done) | (simp_all [weaken, bare, plain, low, band, noKey]; done) | (simp [weaken, bare, plain, low, band, noKey]; grind))
theorem sat_impl_Weaken (w : Word) (n : Int)  : Sat Tryz.prog 296 [.agg w.cells, .int .i64 n] [] (.agg (Word.cells (weaken w n))) [] := by
 have hX := trivial
 refine sat_mk [.cell 4 27] 0 19 Tryz.call296 Tryz.func296 Tryz.ntmps296 rfl rfl rfl rfl rfl ?_
 refine zI [0, 1] ?_
 refine zS [1, 2, 4] ?_
 refine zSF [1, 2, 4, 7] (sat_impl_open _) ?_
 refine zC ?_ ?_
 ·intro c1
  refine zSF [4] (sat_impl_Bare _) ?_
  refine zR ?_
  try simp only [go_sem, simprocAttr]
  all_goals (first | done | rfl | (simp; done) | (simp [weaken, bare, plain, low, band, noKey]; done) | (simp_all [weaken, bare, plain, low, band, noKey]; done) | (simp [weaken, bare, plain, low, band, noKey]; grind))
 ·intro c1 ρ hL
  refine awl_skip ?_
  revert ρ hL
  refine zS [2, 4] ?_
  refine zS [4] ?_
  refine zR ?_
  try simp only [go_sem, simprocAttr]
  all_goals (first | done | rfl | (simp; done) | (simp [weaken, bare, plain, low, band, noKey]; done) | (simp_all [weaken, bare, plain, low, band, noKey]; done) | (simp [weaken, bare, plain, low, band, noKey]; grind))
theorem sat_spec_Taken (by_ : Word) (w : Word)  : Sat Tryz.prog 260 [.agg by_.cells, .agg w.cells] [] (.agg (Word.cells (taken by_ w))) [] := by
 have hX := trivial
 refine sat_mk [.cell 4 27] 0 13 Tryz.call260 Tryz.func260 Tryz.ntmps260 rfl rfl rfl rfl rfl ?_
 refine zI [0, 1] ?_
 refine zS [2, 3, 4] ?_
 refine zS [3, 4, 9] ?_
 refine zC ?_ ?_
 ·intro c1
  refine zSF [4] (sat_spec_Bare _) ?_
  refine zR ?_
  try simp only [go_sem, simprocAttr]
  all_goals (first | done | rfl | (simp; done) | (simp [taken, bare, plain, low, band, noKey]; done) | (simp_all [taken, bare, plain, low, band, noKey]; done) | (simp [taken, bare, plain, low, band, noKey]; grind))
 ·intro c1 ρ hL
  refine awl_skip ?_
  revert ρ hL
  refine zS [4] ?_
  refine zR ?_
  try simp only [go_sem, simprocAttr]
  all_goals (first | done | rfl | (simp; done) | (simp [taken, bare, plain, low, band, noKey]; done) | (simp_all [taken, bare, plain, low, band, noKey]; done) | (simp [taken, bare, plain, low, band, noKey]; grind))
theorem sat_impl_permits (by_ : Word) (p : Int)  : Sat Tryz.prog 295 [.agg by_.cells, .int .i64 p] [] (.bool (decide (band by_.key.perms p ≠ 0))) [] := by
 have hX := trivial
 refine sat_mk [.tmp 4] 0 11 Tryz.call295 Tryz.func295 Tryz.ntmps295 rfl rfl rfl rfl rfl ?_
 refine zI [0, 1] ?_
 refine zS [1, 2] ?_
 refine zS [4] ?_
 refine zR ?_
 try simp only [go_sem, simprocAttr]
 all_goals (first | done | rfl | (simp; done) | (simp [band]; done) | (simp_all [band]; done) | (simp [band]; grind))
theorem sat_impl_Taken (by_ : Word) (w : Word)  : Sat Tryz.prog 279 [.agg by_.cells, .agg w.cells] [] (.agg (Word.cells (taken by_ w))) [] := by
 have hX := trivial
 refine sat_mk [.cell 4 27] 0 10 Tryz.call279 Tryz.func279 Tryz.ntmps279 rfl rfl rfl rfl rfl ?_
 refine zI [0, 1] ?_
 refine zS [2, 3, 4] ?_
 refine zSF [3, 4, 6] (sat_impl_permits _ _) ?_
 refine zC ?_ ?_
 ·intro c1
  refine zS [4] ?_
  refine zR ?_
  try simp only [go_sem, simprocAttr]
  all_goals (first | done | rfl | (simp; done) | (simp [taken, bare, plain, low, band, noKey]; done) | (simp_all [taken, bare, plain, low, band, noKey]; done) | (simp [taken, bare, plain, low, band, noKey]; grind))
 ·intro c1 ρ hL
  refine awl_skip ?_
  revert ρ hL
  refine zSF [4] (sat_impl_Bare _) ?_
  refine zR ?_
  try simp only [go_sem, simprocAttr]
  all_goals (first | done | rfl | (simp; done) | (simp [taken, bare, plain, low, band, noKey]; done) | (simp_all [taken, bare, plain, low, band, noKey]; done) | (simp [taken, bare, plain, low, band, noKey]; grind))
theorem sat_spec_MayPut (by_ : Word) (w : Word)  : Sat Tryz.prog 261 [.agg by_.cells, .agg w.cells] [] (.bool (mayPut by_ w)) [] := by
 have hX := trivial
 refine sat_mk [.tmp 4] 0 15 Tryz.call261 Tryz.func261 Tryz.ntmps261 rfl rfl rfl rfl rfl ?_
 refine zI [0, 1] ?_
 refine zS [2, 3] ?_
 intro ρ hL
 refine zA ?_
 intro K hK
 refine zL [2, 8] ?_
 clear hL
 intro ρ hL
 refine grp_orN (v := ?v1) 5 rfl [] hL.2 rfl (fun hb K1 hK1 => ?run) (fun hb => skA (want := false) (b := _) (by rw [hb]; rfl) hL.2 rfl) (fun ρ hP hM => ?_)
 case run => exact zR1
 simp only [List.drop_succ_cons, List.drop_zero]
 clear hM hL
 have hL := hP
 clear hP
 try simp only [go_sem, simprocAttr, hL, hX]
 repeat' refine And.intro (by first | rfl | omega | (simp; done)) ?_
 refine zE [4] ?_
 clear hK K hL
 refine zR ?_
 try simp only [go_sem, simprocAttr]
 all_goals (first | done | rfl | (simp; done) | (simp [mayPut, band]; done) | (simp_all [mayPut, band]; done) | (simp [mayPut, band]; grind))
theorem sat_impl_MayPut (by_ : Word) (w : Word)  : Sat Tryz.prog 280 [.agg by_.cells, .agg w.cells] [] (.bool (mayPut by_ w)) [] := by
 have hX := trivial
 refine sat_mk [.tmp 4] 0 12 Tryz.call280 Tryz.func280 Tryz.ntmps280 rfl rfl rfl rfl rfl ?_
 refine zI [0, 1] ?_
 refine zS [2, 3] ?_
 intro ρ hL
 refine zA ?_
 intro K hK
 refine zL [2, 8] ?_
 clear hL
 intro ρ hL
 refine grp_orN (v := ?v1) 2 rfl [] hL.2 rfl (fun hb K1 hK1 => ?run) (fun hb => skA (want := false) (b := _) (by rw [hb]; rfl) hL.2 rfl) (fun ρ hP hM => ?_)
 case run =>
  refine zRn ?_
  intro hL
  refine zF (sat_impl_permits _ _) ?_
  exact zK1
 simp only [List.drop_succ_cons, List.drop_zero]
 clear hM hL
 have hL := hP
 clear hP
 try simp only [go_sem, simprocAttr, hL, hX]
 repeat' refine And.intro (by first | rfl | omega | (simp; done)) ?_
 refine zE [4] ?_
 clear hK K hL
 refine zR ?_
 try simp only [go_sem, simprocAttr]
 all_goals (first | done | rfl | (simp; done) | (simp [mayPut, band]; done) | (simp_all [mayPut, band]; done) | (simp [mayPut, band]; grind))
theorem sat_spec_Try (w : Word) (n : Int) (p : Int)  : Sat Tryz.prog 219 [.agg w.cells, .int .i64 n, .int .i64 p] [] (.int .i64 (tryW w n p)) [] := by
 have hX := trivial
 refine sat_mk [.tmp 6] 0 42 Tryz.call219 Tryz.func219 Tryz.ntmps219 rfl rfl rfl rfl rfl ?_
 refine zI [0, 1, 2] ?_
 refine zS [1, 2, 3] ?_
 intro ρ hL
 refine awl_seq (awl_block fun R1 hw1 hR1 => ?_)
 refine zA ?_
 intro K hK
 refine zF (sat_spec_WordOk _) ?_
 refine zL [1, 2, 3, 11] ?_
 clear hL
 intro ρ hL
 refine grp_orN (v := ?v1) 3 rfl [1, 2, 3] hL.2.2.2 rfl (fun hb K1 hK1 => ?run) (fun hb => skA (want := false) (b := _) (by rw [hb]; rfl) hL.2.2.2 rfl) (fun ρ hP hM => ?_)
 case run => exact zR1
 refine zPp ?_
 clear hL hP hM
 intro hL
 refine zE [1, 2, 3, 7] ?_
 clear hK K hL
 refine zC ?_ ?_
 ·intro c1
  refine zS [6] ?_
  refine zR ?_
  try simp only [go_sem, simprocAttr]
  all_goals ((try clear hR1); simp_all [tryW])
 ·intro c1
  refine zS [1, 2, 3, 16] ?_
  refine zC ?_ ?_
  ·intro c2
   refine zS [6] ?_
   refine zR ?_
   try simp only [go_sem, simprocAttr]
   all_goals ((try clear hR1); simp_all [tryW])
  ·intro c2
   refine zS [1, 3, 21] ?_
   refine zC ?_ ?_
   ·intro c3
    refine zS [6] ?_
    refine zR ?_
    try simp only [go_sem, simprocAttr]
    all_goals ((try clear hR1); simp_all [tryW, band])
   ·intro c3 ρ hL
    refine zA ?_
    intro K hK
    refine zL [1, 3, 35] ?_
    clear hL
    intro ρ hL
    refine grp_orN (v := ?v2) 5 rfl [] hL.2.2 rfl (fun hb K1 hK1 => ?run) (fun hb => skA (want := false) (b := _) (by rw [hb]; rfl) hL.2.2 rfl) (fun ρ hP hM => ?_)
    case run => exact zR1
    simp only [List.drop_succ_cons, List.drop_zero]
    clear hM hL
    have hL := hP
    clear hP
    try simp only [go_sem, simprocAttr, hL, hX]
    repeat' refine And.intro (by first | rfl | omega | (simp; done)) ?_
    refine zE [29] ?_
    clear hK K hL
    refine zC ?_ ?_
    ·intro c4
     refine zS [6] ?_
     refine zR ?_
     try simp only [go_sem, simprocAttr]
     all_goals ((try clear hR1); simp_all [tryW, band] <;> omega)
    ·intro c4 ρ hL
     refine awl_skip (awl_nil (blk_normal (hR1 _ _ (.mk ?_))))
     revert ρ hL
     refine zS [6] ?_
     refine zR ?_
     try simp only [go_sem, simprocAttr]
     all_goals ((try clear hR1); simp_all [tryW, band] <;> omega)
theorem sat_impl_Try (w : Word) (n : Int) (p : Int) (hp : 0 ≤ p ∧ p ≤ 63) : Sat Tryz.prog 275 [.agg w.cells, .int .i64 n, .int .i64 p] [] (.int .i64 (tryW w n p)) [] := by
 have hX := trivial
 refine sat_mk [.tmp 6] 0 41 Tryz.call275 Tryz.func275 Tryz.ntmps275 rfl rfl rfl rfl rfl ?_
 refine zI [0, 1, 2] ?_
 refine zS [1, 2, 3] ?_
 intro ρ hL
 refine awl_seq (awl_block fun R1 hw1 hR1 => ?_)
 refine zA ?_
 intro K hK
 refine zL [1, 2, 3, 11] ?_
 clear hL
 intro ρ hL
 refine grp_orN (v := ?v1) 3 rfl [1, 2, 3] hL.2.2.2 rfl (fun hb K1 hK1 => ?run) (fun hb => skA (want := false) (b := _) (by rw [hb]; rfl) hL.2.2.2 rfl) (fun ρ hP hM => ?_)
 case run =>
  refine zRn ?_
  intro hL
  refine zF (sat_impl_WordOk _) ?_
  exact zK1
 refine zPp ?_
 clear hL hP hM
 intro hL
 refine zE [1, 2, 3, 7] ?_
 clear hK K hL
 refine zC ?_ ?_
 ·intro c1
  refine zS [6] ?_
  refine zR ?_
  try simp only [go_sem, simprocAttr]
  all_goals ((try clear hR1); rcases c1 with c1 | c1 <;> simp_all [tryW])
 ·intro c1
  refine zS [1, 2, 3, 16] ?_
  refine zC ?_ ?_
  ·intro c2
   refine zS [6] ?_
   refine zR ?_
   try simp only [go_sem, simprocAttr]
   all_goals ((try clear hR1); simp_all [tryW])
  ·intro c2
   refine zS [1, 3, 21] ?_
   refine zC ?_ ?_
   ·intro c3
    refine zS [6] ?_
    refine zR ?_
    try simp only [go_sem, simprocAttr]
    all_goals ((try clear hR1); rw [andNot_zero hp] at c3; simp_all [tryW])
   ·intro c3 ρ hL
    refine zA ?_
    intro K hK
    refine zL [1, 3, 34] ?_
    clear hL
    intro ρ hL
    refine grp_orN (v := ?v2) 5 rfl [] hL.2.2 rfl (fun hb K1 hK1 => ?run) (fun hb => skA (want := false) (b := _) (by rw [hb]; rfl) hL.2.2 rfl) (fun ρ hP hM => ?_)
    case run => exact zR1
    simp only [List.drop_succ_cons, List.drop_zero]
    clear hM hL
    have hL := hP
    clear hP
    try simp only [go_sem, simprocAttr, hL, hX]
    repeat' refine And.intro (by first | rfl | omega | (simp; done)) ?_
    refine zE [28] ?_
    clear hK K hL
    refine zC ?_ ?_
    ·intro c4
     refine zS [6] ?_
     refine zR ?_
     try simp only [go_sem, simprocAttr]
     all_goals ((try clear hR1); rw [andNot_zero hp] at c3; simp_all [tryW])
    ·intro c4 ρ hL
     refine awl_skip (awl_nil (blk_normal (hR1 _ _ (.mk ?_))))
     revert ρ hL
     refine zS [6] ?_
     refine zR ?_
     try simp only [go_sem, simprocAttr]
     all_goals ((try clear hR1); rw [andNot_zero hp] at c3; simp_all [tryW] <;> omega)
theorem sat_spec_Guess (xs : List Int) (w : Word) (hb0 : xs.length ≤ 1099511627776) : Sat Tryz.prog 177 [.sl xs.length xs.length (ints xs), .agg w.cells] [] (.agg (Word.cells (guess xs w))) [] := by
 have hX := trivial
 refine sat_mk [.cell 4 27] 0 31 Tryz.call177 Tryz.func177 Tryz.ntmps177 rfl rfl rfl rfl rfl ?_
 refine zI [0, 1] ?_
 refine zS [0, 3, 4] ?_
 have w0 : IntKind.i64.wrap ((xs.length : Int) - 1) = (xs.length : Int) - 1 := wrap64 (by omega)
 have hX0 := hX
 replace hX := And.intro w0 hX
 intro ρ hL
 refine zA ?_
 intro K hK
 refine zF (sat_spec_l1In _ _ _) ?_
 refine zL [0, 3, 4, 11] ?_
 clear hL
 intro ρ hL
 refine grp_andN (v := ?v1) 6 rfl [0, 3, 4] hL.2.2.2 rfl (fun hb K1 hK1 => ?run) (fun hb => skA (want := true) (b := _) (by rw [hb]; rfl) hL.2.2.2 rfl) (fun ρ hP hM => ?_)
 case run =>
  simp only [List.take_succ_cons, List.take_zero]
  rw [hb] at hL
  have hw := inR_iff.1 hb
  have hn2 : w.n.toNat < xs.length := by omega
  try simp only [go_sem, simprocAttr, hL, hX, hn2]
  repeat' refine And.intro (by first | rfl | omega | (simp; done)) ?_
  refine hK1 _ ?_ ?_ ?_ <;> simp only [go_sem, simprocAttr, hL, hX, hn2] <;> exact rfl
 refine zPp ?_
 clear hL hP hM
 intro hL
 refine zE [0, 3, 4, 18] ?_
 clear hK K hL
 clear hX
 have hX := hX0
 clear hX0
 refine zC ?_ ?_
 ·intro c1
  have hw := inR_iff.1 c1.1
  have hn2 : w.n.toNat < xs.length := by omega
  have hX0 := hX
  replace hX := And.intro hn2 hX
  intro ρ hL
  refine zAD [0, 0, 0, 4, 14, 30, 63, 127] ?_
  intro K hK
  refine zFD [0, 0, 0, 4, 14, 30, 63, 127] (sat_spec_Point _ _) ?_
  refine zE [4] ?_
  clear hK K hL
  clear hX
  have hX := hX0
  clear hX0
  refine zR ?_
  try simp only [go_sem, simprocAttr]
  all_goals (simp_all [guess])
 ·intro c1 ρ hL
  refine awl_skip ?_
  revert ρ hL
  refine zSF [4] (sat_spec_Point _ _) ?_
  refine zR ?_
  try simp only [go_sem, simprocAttr]
  all_goals (rw [guess, if_neg (by rintro ⟨p, q⟩; simp_all)]; rfl)
theorem sat_impl_Guess (xs : List Int) (w : Word) (hb0 : xs.length ≤ 1099511627776) : Sat Tryz.prog 241 [.sl xs.length xs.length (ints xs), .agg w.cells] [] (.agg (Word.cells (guess xs w))) [] := by
 have hX := trivial
 refine sat_mk [.cell 4 27] 0 31 Tryz.call241 Tryz.func241 Tryz.ntmps241 rfl rfl rfl rfl rfl ?_
 refine zI [0, 1] ?_
 refine zS [0, 3, 4] ?_
 have w0 : IntKind.i64.wrap ((xs.length : Int) - 1) = (xs.length : Int) - 1 := wrap64 (by omega)
 have hX0 := hX
 replace hX := And.intro w0 hX
 intro ρ hL
 refine zA ?_
 intro K hK
 refine zF (sat_impl_in _ _ _) ?_
 refine zL [0, 3, 4, 11] ?_
 clear hL
 intro ρ hL
 refine grp_andN (v := ?v1) 6 rfl [0, 3, 4] hL.2.2.2 rfl (fun hb K1 hK1 => ?run) (fun hb => skA (want := true) (b := _) (by rw [hb]; rfl) hL.2.2.2 rfl) (fun ρ hP hM => ?_)
 case run =>
  simp only [List.take_succ_cons, List.take_zero]
  rw [hb] at hL
  have hw := inR_iff.1 hb
  have hn2 : w.n.toNat < xs.length := by omega
  try simp only [go_sem, simprocAttr, hL, hX, hn2]
  repeat' refine And.intro (by first | rfl | omega | (simp; done)) ?_
  refine hK1 _ ?_ ?_ ?_ <;> simp only [go_sem, simprocAttr, hL, hX, hn2] <;> exact rfl
 refine zPp ?_
 clear hL hP hM
 intro hL
 refine zE [0, 3, 4, 18] ?_
 clear hK K hL
 clear hX
 have hX := hX0
 clear hX0
 refine zC ?_ ?_
 ·intro c1
  have hw := inR_iff.1 c1.1
  have hn2 : w.n.toNat < xs.length := by omega
  have hX0 := hX
  replace hX := And.intro hn2 hX
  intro ρ hL
  refine zAD [0, 0, 0, 4, 14, 30, 63, 127] ?_
  intro K hK
  refine zFD [0, 0, 0, 4, 14, 30, 63, 127] (sat_impl_Point _ _) ?_
  refine zE [4] ?_
  clear hK K hL
  clear hX
  have hX := hX0
  clear hX0
  refine zR ?_
  try simp only [go_sem, simprocAttr]
  all_goals (simp_all [guess])
 ·intro c1 ρ hL
  refine awl_skip ?_
  revert ρ hL
  refine zSF [4] (sat_impl_Point _ _) ?_
  refine zR ?_
  try simp only [go_sem, simprocAttr]
  all_goals (rw [guess, if_neg (by rintro ⟨p, q⟩; simp_all)]; rfl)
end Go.Proofs.YtgpjgljgplngpaaGreatDoor.AM
