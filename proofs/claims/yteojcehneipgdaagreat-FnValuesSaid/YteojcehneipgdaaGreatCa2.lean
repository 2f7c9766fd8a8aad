/- What is guessed. No conditions but those each theorem bears. -/
import Derived.Test.YteojcehneipgdaaGreatFa
import Derived.Test.YteojcehneipgdaaGreatM4
import Derived.Test.YteojcehneipgdaaGreatCa1
set_option linter.unusedSimpArgs false
set_option linter.unusedVariables false
namespace Go.Proofs.YteojcehneipgdaaGreat.AM
open Go
set_option maxHeartbeats 8000000
set_option maxRecDepth 100000

theorem sat_spec_GuessOk (xs : List Int) (cap : Nat) (hb : xs.length ≤ 1099511627776) : Sat Tryz.prog 102 [.sl xs.length cap (ints xs)] [] (.bool (guessOk xs)) [] := by
 have hX := trivial
 refine sat_mk [.tmp 2] 0 19 Tryz.call102 Tryz.func102 Tryz.ntmps102 rfl rfl rfl rfl rfl ?_
 refine zI [0] ?_
 refine zS [0] ?_
 refine zS [0, 3] ?_
 intro ρ hL
 have e1 := hL
 refine awl_loopH (fun H0 n σ G => ∃ (i : Nat), n = xs.length - i ∧ (i ≤ xs.length) ∧ ((xs.take i).all (fun x => inR x (-1) 65535) = true) ∧ (liveE [0] σ ρ ∧ σ 3 = .int .i64 (i : Int)) ∧ G = H0) (fun H0 σ G => (xs.all (fun x => inR x (-1) 65535) = true) ∧ (liveE [0] σ ρ) ∧ G = H0) ((fun (i : Nat) => xs.length - i) 0) ?init1 (fun n ρ G hI => ?round1) (fun ρ G hJ => ?after1)
 case init1 => exact ⟨0, rfl, (Nat.zero_le _), (by simp), ⟨liveE_refl _ _, (hL.2)⟩, rfl⟩
 case round1 =>
  clear hL
  obtain ⟨i, hn, i1_0, i1_1, hL, hG⟩ := hI
  subst hG
  try simp only [go_sem, simprocAttr, e1, hX] at hL
  revert ρ hL
  refine zS [0, 3, 7] ?_
  refine zC ?_ ?_
  · intro c1
    have hi1 : i < xs.length := by omega
    replace hX := And.intro hi1 hX
    intro ρ hL
    refine awl_skip ?_
    refine awl_seq ?_
    refine awl_block fun R1 hw1 hR1 => ?_
    revert ρ hL
    refine zSF [0, 3, 15] (sat_spec_l1In _ _ _) ?_
    refine zC ?_ ?_
    · intro c2
      refine zS [2] ?_
      refine zR ?_
      try simp only [go_sem, simprocAttr]
      all_goals try clear hR1
      all_goals (rw [guessOk, all_false_of (d := 0) hi1 (by simpa using c2), Bool.and_false])
    · intro c2
      intro ρ hL
      refine awl_skip ?_
      refine awl_nil ?_
      refine blk_normal (hR1 _ _ (.mk ?_))
      have w1 : IntKind.i64.wrap ((i : Int) + 1) = ((i + 1 : Nat) : Int) := by rw [wrap64 (by omega)]; omega
      replace hX := And.intro w1 hX
      revert ρ hL
      refine zS [0, 3] ?_
      intro ρ hL
      refine awl_nil ?_
      refine loop_again _ ?meas ⟨i + 1, rfl, (by omega), (by exact all_take_succ (d := 0) hi1 i1_1 (by simpa using c2)), ⟨(by simp only [go_sem, simprocAttr, hL, hX, e1]), (hL.2)⟩, rfl⟩
      case meas => subst hn; omega
  · intro c1
    intro ρ hL
    refine awl_exit ?_
    refine loop_break ?_
    exact ⟨(by exact all_of_take (by omega) i1_1), (by simp only [go_sem, simprocAttr, hL, hX, e1]), rfl⟩
 case after1 =>
  clear hL
  obtain ⟨j1_0, hL, hG⟩ := hJ
  subst hG
  try simp only [go_sem, simprocAttr, e1, hX] at hL
  revert ρ hL
  refine zS [2] ?_
  refine zR ?_
  try simp only [go_sem, simprocAttr]
  all_goals try clear hR1
  all_goals (rw [guessOk, j1_0, Bool.and_true]; simp; omega)
theorem sat_slices_IndexFunc_int_int (xs : List Int) (c : Nat) (g : FuncId) (p : Int → Bool) (hb : xs.length ≤ 1099511627776) (hg : ∀ x, Sat Tryz.prog g [.int .i64 x] [] (.bool (p x)) []) : Sat Tryz.prog 206 [.sl xs.length c (ints xs), .func g [] []] [] (.int .i64 (firstAt p xs 0)) [] := by
 have hX := trivial
 refine sat_mk [.tmp 4] 0 19 Tryz.call206 Tryz.func206 Tryz.ntmps206 rfl rfl rfl rfl rfl ?_
 refine zI [0, 1] ?_
 refine zS [0, 1] ?_
 refine zS [0, 1, 7, 8] ?_
 intro ρ hL
 have e1 := hL
 refine awl_loopH (fun H0 n σ G => ∃ (i : Nat), n = xs.length - i ∧ (i ≤ xs.length) ∧ (firstAt p (xs.drop i) i = firstAt p xs 0) ∧ (liveE [0, 1, 7] σ ρ ∧ σ 8 = .int .i64 (i : Int)) ∧ G = H0) (fun H0 σ G => (firstAt p xs 0 = -1) ∧ (True) ∧ G = H0) ((fun (i : Nat) => xs.length - i) 0) ?init1 (fun n ρ G hI => ?round1) (fun ρ G hJ => ?after1)
 case init1 => exact ⟨0, rfl, (Nat.zero_le _), (by simp), ⟨liveE_refl _ _, (hL.2.2.2)⟩, rfl⟩
 case round1 =>
  clear hL
  obtain ⟨i, hn, i1_0, i1_1, hL, hG⟩ := hI
  subst hG
  try simp only [go_sem, simprocAttr, e1, hX] at hL
  revert ρ hL
  refine zS [0, 1, 7, 8, 9] ?_
  refine zC ?_ ?_
  · intro c1
    have hi1 : i < xs.length := by omega
    replace hX := And.intro hi1 hX
    intro ρ hL
    refine awl_skip ?_
    refine awl_seq ?_
    refine awl_block fun R1 hw1 hR1 => ?_
    revert ρ hL
    refine zS [0, 1, 5, 7, 8] ?_
    intro ρ hL
    refine zA ?_
    intro K hK
    refine opS_call_ro (by simp only [go_sem, simprocAttr, hL, hX]; exact rfl) (hg ?_) ?ha ?hv ?hh ?_
    case ha => simp only [go_sem, simprocAttr, hL, hX]; first | done | rfl
    case hv => first | rfl | (simp only [go_sem]; done)
    case hh => first | rfl | (simp only [go_sem]; done)
    try simp only [go_sem, simprocAttr, hL, hX]
    repeat' refine And.intro (by first | rfl | omega | (simp; done)) ?_
    refine zE [0, 1, 5, 7, 8, 16] ?_
    clear hK K hL
    refine zC ?_ ?_
    · intro c2
      refine zS [4] ?_
      refine zR ?_
      try simp only [go_sem, simprocAttr]
      all_goals try clear hR1
      all_goals (have := firstAt_drop (p := p) (d := 0) xs i 0 hi1; rw [← i1_1]; simp only [Nat.zero_add] at this; rw [this, if_pos (by simpa using c2)])
    · intro c2
      intro ρ hL
      refine awl_skip ?_
      refine awl_nil ?_
      refine blk_normal (hR1 _ _ (.mk ?_))
      have w1 : IntKind.i64.wrap ((i : Int) + 1) = ((i + 1 : Nat) : Int) := by rw [wrap64 (by omega)]; omega
      replace hX := And.intro w1 hX
      revert ρ hL
      refine zS [0, 1, 7, 8] ?_
      intro ρ hL
      refine awl_nil ?_
      refine loop_again _ ?meas ⟨i + 1, rfl, (by omega), (by have := firstAt_drop (p := p) (d := 0) xs i 0 hi1; rw [← i1_1]; simp only [Nat.zero_add] at this; rw [this, if_neg (by simpa using c2)]), ⟨(by simp only [go_sem, simprocAttr, hL, hX, e1]), (hL.2.2.2)⟩, rfl⟩
      case meas => subst hn; omega
  · intro c1
    intro ρ hL
    refine awl_exit ?_
    refine loop_break ?_
    exact ⟨(by rw [← i1_1, List.drop_of_length_le (by omega)]; rfl), trivial, rfl⟩
 case after1 =>
  clear hL
  obtain ⟨j1_0, hL, hG⟩ := hJ
  subst hG
  refine zA ?_
  intro K hK
  refine zE [4] ?_
  clear hK K hL
  refine zR ?_
  try simp only [go_sem, simprocAttr]
  all_goals try clear hR1
  all_goals (rw [j1_0])
theorem sat_impl_GuessOk_1 (x : Int)  : Sat Tryz.prog 171 [.int .i64 x] [] (.bool (!inR x (-1) 65535)) [] := by
 have hX := trivial
 refine sat_mk [.tmp 2] 0 6 Tryz.call171 Tryz.func171 Tryz.ntmps171 rfl rfl rfl rfl rfl ?_
 refine zI [0] ?_
 refine zS [0] ?_
 refine zSF [2] (sat_impl_in _ _ _) ?_
 refine zR ?_
 try simp only [go_sem, simprocAttr]
 all_goals (first | done | rfl | (simp; done) | (simp [inR]; done) | (simp_all [inR]; done) | (simp [inR]; grind))
theorem sat_slices_ContainsFunc_int_int (xs : List Int) (c : Nat) (g : FuncId) (p : Int → Bool) (hb : xs.length ≤ 1099511627776) (hg : ∀ x, Sat Tryz.prog g [.int .i64 x] [] (.bool (p x)) []) : Sat Tryz.prog 170 [.sl xs.length c (ints xs), .func g [] []] [] (.bool (xs.any p)) [] := by
 have hX := trivial
 refine sat_mk [.tmp 4] 0 9 Tryz.call170 Tryz.func170 Tryz.ntmps170 rfl rfl rfl rfl rfl ?_
 refine zI [0, 1] ?_
 refine zS [0, 1] ?_
 refine zSF [4] (sat_slices_IndexFunc_int_int _ _ _ p ?hp0 ?hp1) ?_
 case hp0 => first | assumption | omega | (simp; done)
 case hp1 => first | assumption | omega | (simp; done)
 refine zR ?_
 try simp only [go_sem, simprocAttr]
 all_goals (have := firstAt_neg (p := p) xs 0; cases h : xs.any p <;> simp_all)
theorem sat_impl_GuessOk (xs : List Int) (c : Nat) (hb : xs.length ≤ 1099511627776) : Sat Tryz.prog 106 [.sl xs.length c (ints xs)] [] (.bool (guessOk xs)) [] := by
 have hX := trivial
 refine sat_mk [.tmp 2] 0 11 Tryz.call106 Tryz.func106 Tryz.ntmps106 rfl rfl rfl rfl rfl ?_
 refine zI [0] ?_
 refine zS [0] ?_
 intro ρ hL
 refine zA ?_
 intro K hK
 refine zL [0, 6] ?_
 clear hL
 intro ρ hL
 refine grp_andN (tc := 6) (tv := 9) (td := 10) (v := ?v1) 3 rfl [] hL.2 rfl (fun hb K1 hK1 => ?run) (fun hb => ?skip) (fun ρ hP hM => ?_)
 case skip => exact skA (want := true) (b := _) (by rw [hb]; rfl) hL.2 rfl
 case run =>
  simp only [List.take_succ_cons, List.take_zero]
  rw [hb] at hL
  try simp only [go_sem, simprocAttr, hL, hX]
  repeat' refine And.intro (by first | rfl | omega | (simp; done)) ?_
  refine zF (sat_slices_ContainsFunc_int_int _ _ _ (fun x => !inR x (-1) 65535) ?hp0 ?hp1) ?_
  case hp0 => first | assumption | omega | (simp; done)
  case hp1 => exact sat_impl_GuessOk_1
  refine hK1 _ ?_ ?_ ?_ <;> simp only [go_sem, simprocAttr, hL, hX] <;> exact rfl
 simp only [List.drop_succ_cons, List.drop_zero]
 clear hM hL
 have hL := hP
 clear hP
 try simp only [go_sem, simprocAttr, hL, hX]
 repeat' refine And.intro (by first | rfl | omega | (simp; done)) ?_
 refine zE [2] ?_
 clear hK K hL
 refine zR ?_
 try simp only [go_sem, simprocAttr]
 all_goals (rw [guessOk, List.all_eq_not_any_not]; rw [show decide ((xs.length : Int) = 48) = decide (xs.length = 48) by rw [decide_eq_decide]; omega])
end Go.Proofs.YteojcehneipgdaaGreat.AM
