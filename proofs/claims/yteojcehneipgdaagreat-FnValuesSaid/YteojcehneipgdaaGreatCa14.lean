/- Cores in order; where an entry's words come from. No conditions but those each theorem bears. -/
import Derived.Test.YteojcehneipgdaaGreatFa
import Derived.Test.YteojcehneipgdaaGreatM5
import Derived.Test.YteojcehneipgdaaGreatCa12
set_option linter.unusedSimpArgs false
set_option linter.unusedVariables false
namespace Go.Proofs.YteojcehneipgdaaGreat.AM
open Go
set_option maxHeartbeats 8000000
set_option maxRecDepth 100000

theorem sat_impl_CoreOk (c : Cor) (hf : c.fit) : Sat Tryz.prog 33 [.agg c.cells] [] (.bool (corOk c)) [] := by
 have hX := trivial
 refine sat_mk [.tmp 2] 0 28 Tryz.call33 Tryz.func33 Tryz.ntmps33 rfl rfl rfl rfl rfl ?_
 refine zI [0] ?_
 refine zS [1] ?_
 intro ρ hL
 refine zA ?_
 intro K hK
 refine zF (sat_impl_StateOk c.s hf.1) ?_
 refine zL [1, 6] ?_
 clear hL
 intro ρ hL
 refine grp_andN (tc := 6) (tv := 10) (td := 11) (v := ?v1) 4 rfl [1] hL.2 rfl (fun hb K1 hK1 => ?run) (fun hb => ?skip) (fun ρ hP hM => ?_)
 case skip => exact skA (want := true) (b := _) (by rw [hb]; rfl) hL.2 rfl
 case run =>
  simp only [List.take_succ_cons, List.take_zero]
  rw [hb] at hL
  try simp only [go_sem, simprocAttr, hL, hX]
  repeat' refine And.intro (by first | rfl | omega | (simp; done)) ?_
  refine hK1 _ ?_ ?_ ?_ <;> simp only [go_sem, simprocAttr, hL, hX] <;> exact rfl
 simp only [List.drop_succ_cons, List.drop_zero]
 try simp only [go_sem, simprocAttr, hL, hX] at hM
 replace hL := And.intro hP hM
 clear hP hM
 try simp only [go_sem, simprocAttr, hL, hX]
 repeat' refine And.intro (by first | rfl | omega | (simp; done)) ?_
 refine zL [1, 12] ?_
 clear hL
 intro ρ hL
 refine grp_andN (tc := 12) (tv := 16) (td := 17) (v := ?v2) 4 rfl [1] hL.2 rfl (fun hb K1 hK1 => ?run) (fun hb => ?skip) (fun ρ hP hM => ?_)
 case skip => exact skA (want := true) (b := _) (by rw [hb]; rfl) hL.2 rfl
 case run =>
  simp only [List.take_succ_cons, List.take_zero]
  rw [hb] at hL
  try simp only [go_sem, simprocAttr, hL, hX]
  repeat' refine And.intro (by first | rfl | omega | (simp; done)) ?_
  refine zF (sat_slices_ContainsFunc_impl_Entry_impl_Entry c.rob _ [] (fun x => !entOk x) (Nat.le_trans hf.2.1 (by decide)) (fun _ _ _ => rfl) (fun x => sat_impl_CoreOk_1 x)) ?_
  refine hK1 _ ?_ ?_ ?_ <;> simp only [go_sem, simprocAttr, hL, hX] <;> exact rfl
 simp only [List.drop_succ_cons, List.drop_zero]
 try simp only [go_sem, simprocAttr, hL, hX] at hM
 replace hL := And.intro hP hM
 clear hP hM
 try simp only [go_sem, simprocAttr, hL, hX]
 repeat' refine And.intro (by first | rfl | omega | (simp; done)) ?_
 refine zL [1, 18] ?_
 clear hL
 intro ρ hL
 refine grp_andN (tc := 18) (tv := 21) (td := 22) (v := ?v3) 3 rfl [1] hL.2 rfl (fun hb K1 hK1 => ?run) (fun hb => ?skip) (fun ρ hP hM => ?_)
 case skip => exact skA (want := true) (b := _) (by rw [hb]; rfl) hL.2 rfl
 case run =>
  simp only [List.take_succ_cons, List.take_zero]
  rw [hb] at hL
  try simp only [go_sem, simprocAttr, hL, hX]
  repeat' refine And.intro (by first | rfl | omega | (simp; done)) ?_
  refine zF (sat_impl_WordOk c.next) ?_
  refine hK1 _ ?_ ?_ ?_ <;> simp only [go_sem, simprocAttr, hL, hX] <;> exact rfl
 simp only [List.drop_succ_cons, List.drop_zero]
 try simp only [go_sem, simprocAttr, hL, hX] at hM
 replace hL := And.intro hP hM
 clear hP hM
 try simp only [go_sem, simprocAttr, hL, hX]
 repeat' refine And.intro (by first | rfl | omega | (simp; done)) ?_
 refine zL [1, 23] ?_
 clear hL
 intro ρ hL
 refine grp_andN (tc := 23) (tv := 26) (td := 27) (v := ?v4) 3 rfl [] hL.2 rfl (fun hb K1 hK1 => ?run) (fun hb => ?skip) (fun ρ hP hM => ?_)
 case skip => exact skA (want := true) (b := _) (by rw [hb]; rfl) hL.2 rfl
 case run =>
  simp only [List.take_succ_cons, List.take_zero]
  rw [hb] at hL
  try simp only [go_sem, simprocAttr, hL, hX]
  repeat' refine And.intro (by first | rfl | omega | (simp; done)) ?_
  refine zF (sat_impl_GuessOk c.guesses c.guesses.length (Nat.le_trans hf.2.2 (by decide))) ?_
  refine hK1 _ ?_ ?_ ?_ <;> simp only [go_sem, simprocAttr, hL, hX] <;> exact rfl
 simp only [List.drop_succ_cons, List.drop_zero]
 clear hM hL
 have hL := hP
 clear hP
 try simp only [go_sem, simprocAttr, hL, hX]
 repeat' refine And.intro (by first | rfl | omega | (simp; done)) ?_
 refine zE [2] ?_
 clear hK K hL
 refine zR ?_
 try simp only [go_sem, simprocAttr]
 all_goals (rw [AV.bool.injEq]; simp only [corOk, List.all_eq_not_any_not]; rw [show (decide ((c.rob.length : Int) ≤ 6)) = decide (c.rob.length ≤ 6) by rw [decide_eq_decide]; omega] <;> ac_rfl)
theorem sat_spec_CoreOk (c : Cor) (hf : c.fit) : Sat Tryz.prog 32 [.agg c.cells] [] (.bool (corOk c)) [] := by
 have hX := trivial
 refine sat_mk [.tmp 2] 0 37 Tryz.call32 Tryz.func32 Tryz.ntmps32 rfl rfl rfl rfl rfl ?_
 refine zI [0] ?_
 have hf1 := hf.2.1
 refine zS [1] ?_
 refine zS [1, 3] ?_
 intro ρ hL
 have e1 := hL
 refine awl_loopH (fun H0 n σ G => ∃ (i : Nat), n = c.rob.length - i ∧ (i ≤ c.rob.length) ∧ ((c.rob.take i).all entOk = true) ∧ (liveE [1] σ ρ ∧ σ 3 = .int .i64 (i : Int)) ∧ G = H0) (fun H0 σ G => (c.rob.all entOk = true) ∧ (liveE [1] σ ρ) ∧ G = H0) ((fun (i : Nat) => c.rob.length - i) 0) ?init1 (fun n ρ G hI => ?round1) (fun ρ G hJ => ?after1)
 case init1 => exact ⟨0, rfl, (Nat.zero_le _), (by simp), ⟨liveE_refl _ _, (hL.2)⟩, rfl⟩
 case round1 =>
  clear hL
  obtain ⟨i, hn, i1_0, i1_1, hL, hG⟩ := hI
  subst hG
  try simp only [go_sem, simprocAttr, e1, hX] at hL
  revert ρ hL
  refine zS [1, 3, 8] ?_
  refine zC ?_ ?_
  · intro c1
    have hi1 : i < c.rob.length := by omega
    replace hX := And.intro hi1 hX
    intro ρ hL
    refine awl_skip ?_
    refine awl_seq ?_
    refine awl_block fun R1 hw1 hR1 => ?_
    revert ρ hL
    refine zSF [1, 3, 17] (sat_spec_l12Entry (c.rob.getD i noEnt)) ?_
    refine zC ?_ ?_
    · intro c2
      refine zS [2] ?_
      refine zR ?_
      try simp only [go_sem, simprocAttr]
      all_goals try clear hR1
      all_goals (rw [corOk, all_false_of (d := noEnt) hi1 (by simpa using c2)]; simp only [Bool.false_and])
    · intro c2
      intro ρ hL
      refine awl_skip ?_
      refine awl_nil ?_
      refine blk_normal (hR1 _ _ (.mk ?_))
      have w1 : IntKind.i64.wrap ((i : Int) + 1) = ((i + 1 : Nat) : Int) := by rw [wrap64 (by omega)]; omega
      replace hX := And.intro w1 hX
      revert ρ hL
      refine zS [1, 3] ?_
      intro ρ hL
      refine awl_nil ?_
      refine loop_again _ ?meas ⟨i + 1, rfl, (by omega), (by exact all_take_succ (d := noEnt) hi1 i1_1 (by simpa using c2)), ⟨(by simp only [go_sem, simprocAttr, hL, hX, e1]), (hL.2)⟩, rfl⟩
      case meas => subst hn; omega
  · intro c1
    intro ρ hL
    refine awl_exit ?_
    refine loop_break ?_
    exact ⟨(by exact all_of_take (by omega) i1_1), (by simp only [go_sem, simprocAttr, hL, hX, e1]), rfl⟩
 case after1 =>
  clear hL
  obtain ⟨j1_0, hL, hG⟩ := hJ
  subst hG
  try simp only [go_sem, simprocAttr, e1, hX] at hL
  refine zA ?_
  intro K hK
  refine zF (sat_spec_StateOk c.s hf.1) ?_
  refine zL [1, 21] ?_
  clear hL
  intro ρ hL
  refine grp_andN (tc := 21) (tv := 25) (td := 26) (v := ?v1) 4 rfl [1] hL.2 rfl (fun hb K1 hK1 => ?run) (fun hb => ?skip) (fun ρ hP hM => ?_)
  case skip => exact skA (want := true) (b := _) (by rw [hb]; rfl) hL.2 rfl
  case run =>
   simp only [List.take_succ_cons, List.take_zero]
   rw [hb] at hL
   try simp only [go_sem, simprocAttr, hL, hX]
   repeat' refine And.intro (by first | rfl | omega | (simp; done)) ?_
   refine hK1 _ ?_ ?_ ?_ <;> simp only [go_sem, simprocAttr, hL, hX] <;> exact rfl
  simp only [List.drop_succ_cons, List.drop_zero]
  try simp only [go_sem, simprocAttr, hL, hX] at hM
  replace hL := And.intro hP hM
  clear hP hM
  try simp only [go_sem, simprocAttr, hL, hX]
  repeat' refine And.intro (by first | rfl | omega | (simp; done)) ?_
  refine zL [1, 27] ?_
  clear hL
  intro ρ hL
  refine grp_andN (tc := 27) (tv := 30) (td := 31) (v := ?v2) 3 rfl [1] hL.2 rfl (fun hb K1 hK1 => ?run) (fun hb => ?skip) (fun ρ hP hM => ?_)
  case skip => exact skA (want := true) (b := _) (by rw [hb]; rfl) hL.2 rfl
  case run =>
   simp only [List.take_succ_cons, List.take_zero]
   rw [hb] at hL
   try simp only [go_sem, simprocAttr, hL, hX]
   repeat' refine And.intro (by first | rfl | omega | (simp; done)) ?_
   refine zF (sat_spec_WordOk c.next) ?_
   refine hK1 _ ?_ ?_ ?_ <;> simp only [go_sem, simprocAttr, hL, hX] <;> exact rfl
  simp only [List.drop_succ_cons, List.drop_zero]
  try simp only [go_sem, simprocAttr, hL, hX] at hM
  replace hL := And.intro hP hM
  clear hP hM
  try simp only [go_sem, simprocAttr, hL, hX]
  repeat' refine And.intro (by first | rfl | omega | (simp; done)) ?_
  refine zL [1, 32] ?_
  clear hL
  intro ρ hL
  refine grp_andN (tc := 32) (tv := 35) (td := 36) (v := ?v3) 3 rfl [] hL.2 rfl (fun hb K1 hK1 => ?run) (fun hb => ?skip) (fun ρ hP hM => ?_)
  case skip => exact skA (want := true) (b := _) (by rw [hb]; rfl) hL.2 rfl
  case run =>
   simp only [List.take_succ_cons, List.take_zero]
   rw [hb] at hL
   try simp only [go_sem, simprocAttr, hL, hX]
   repeat' refine And.intro (by first | rfl | omega | (simp; done)) ?_
   refine zF (sat_spec_GuessOk c.guesses c.guesses.length (Nat.le_trans hf.2.2 (by decide))) ?_
   refine hK1 _ ?_ ?_ ?_ <;> simp only [go_sem, simprocAttr, hL, hX] <;> exact rfl
  simp only [List.drop_succ_cons, List.drop_zero]
  clear hM hL
  have hL := hP
  clear hP
  try simp only [go_sem, simprocAttr, hL, hX]
  repeat' refine And.intro (by first | rfl | omega | (simp; done)) ?_
  refine zE [2] ?_
  clear hK K hL
  refine zR ?_
  try simp only [go_sem, simprocAttr]
  all_goals try clear hR1
  all_goals (rw [AV.bool.injEq, corOk, j1_0, Bool.true_and]; rw [show (decide ((c.rob.length : Int) ≤ 6)) = decide (c.rob.length ≤ 6) by rw [decide_eq_decide]; omega] <;> ac_rfl)
end Go.Proofs.YteojcehneipgdaaGreat.AM
