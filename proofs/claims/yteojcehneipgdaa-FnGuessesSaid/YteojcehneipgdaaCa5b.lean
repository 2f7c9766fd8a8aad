/- What is made of words; reach; guesses. No conditions but those each theorem bears. -/
import Derived.Test.YteojcehneipgdaaFa
import Derived.Test.YteojcehneipgdaaM4
import Derived.Test.YteojcehneipgdaaCa5
set_option linter.unusedSimpArgs false
set_option linter.unusedVariables false
namespace Go.Proofs.Yteojcehneipgdaa.AM
open Go
set_option maxHeartbeats 8000000
set_option maxRecDepth 100000

theorem sat_spec_l4Open (w : Word)  : Sat Try.prog 38 [.agg w.cells] [] (.bool (opened w)) [] := by
 have hX := trivial
 refine sat_mk [.tmp 2] 0 15 Try.call38 Try.func38 Try.ntmps38 rfl rfl rfl rfl rfl ?_
 refine zI [0] ?_
 refine zS [1] ?_
 intro ρ hL
 refine zA ?_
 intro K hK
 refine zF (sat_spec_WordOk _) ?_
 refine zL [1, 5] ?_
 clear hL
 intro ρ hL
 refine grp_andN (tc := 5) (tv := 7) (td := 8) (v := ?v1) 2 rfl [1] hL.2 rfl (fun hb K1 hK1 => ?run) (fun hb => ?skip) (fun ρ hP hM => ?_)
 case skip => exact skA (want := true) (b := _) (by rw [hb]; rfl) hL.2 rfl
 case run =>
  simp only [List.take_succ_cons, List.take_zero]
  rw [hb] at hL
  try simp only [go_sem, simprocAttr, hL, hX]
  repeat' refine And.intro (by first | rfl | omega | (simp; done)) ?_
  refine hK1 _ ?_ ?_ ?_ <;> simp only [go_sem, simprocAttr, hL, hX] <;> exact rfl
 simp only [List.drop_succ_cons, List.drop_zero]
 try simp only [go_sem, simprocAttr, hL, hX] at hM
 replace hL := And.intro hP hM
 clear hP hM
 try simp only [go_sem, simprocAttr, hL, hX]
 repeat' refine And.intro (by first | rfl | omega | (simp; done)) ?_
 refine zL [1, 9] ?_
 clear hL
 intro ρ hL
 refine grp_andN (tc := 9) (tv := 13) (td := 14) (v := ?v2) 4 rfl [] hL.2 rfl (fun hb K1 hK1 => ?run) (fun hb => ?skip) (fun ρ hP hM => ?_)
 case skip => exact skA (want := true) (b := _) (by rw [hb]; rfl) hL.2 rfl
 case run =>
  simp only [List.take_succ_cons, List.take_zero]
  rw [hb] at hL
  try simp only [go_sem, simprocAttr, hL, hX]
  repeat' refine And.intro (by first | rfl | omega | (simp; done)) ?_
  refine hK1 _ ?_ ?_ ?_ <;> simp only [go_sem, simprocAttr, hL, hX] <;> exact rfl
 simp only [List.drop_succ_cons, List.drop_zero]
 clear hM hL
 have hL := hP
 clear hP
 try simp only [go_sem, simprocAttr, hL, hX]
 repeat' refine And.intro (by first | rfl | omega | (simp; done)) ?_
 refine zE [2] ?_
 clear hK K hL
 refine zR ?_
 try simp only [go_sem, simprocAttr]
 all_goals (first | done | rfl | (simp; done) | (simp [opened]; done) | (simp_all [opened]; done) | (simp [opened]; grind))
theorem sat_impl_open (w : Word)  : Sat Try.prog 37 [.agg w.cells] [] (.bool (opened w)) [] := by
 have hX := trivial
 refine sat_mk [.tmp 2] 0 15 Try.call37 Try.func37 Try.ntmps37 rfl rfl rfl rfl rfl ?_
 refine zI [0] ?_
 refine zS [1] ?_
 intro ρ hL
 refine zA ?_
 intro K hK
 refine zF (sat_impl_WordOk _) ?_
 refine zL [1, 5] ?_
 clear hL
 intro ρ hL
 refine grp_andN (tc := 5) (tv := 7) (td := 8) (v := ?v1) 2 rfl [1] hL.2 rfl (fun hb K1 hK1 => ?run) (fun hb => ?skip) (fun ρ hP hM => ?_)
 case skip => exact skA (want := true) (b := _) (by rw [hb]; rfl) hL.2 rfl
 case run =>
  simp only [List.take_succ_cons, List.take_zero]
  rw [hb] at hL
  try simp only [go_sem, simprocAttr, hL, hX]
  repeat' refine And.intro (by first | rfl | omega | (simp; done)) ?_
  refine hK1 _ ?_ ?_ ?_ <;> simp only [go_sem, simprocAttr, hL, hX] <;> exact rfl
 simp only [List.drop_succ_cons, List.drop_zero]
 try simp only [go_sem, simprocAttr, hL, hX] at hM
 replace hL := And.intro hP hM
 clear hP hM
 try simp only [go_sem, simprocAttr, hL, hX]
 repeat' refine And.intro (by first | rfl | omega | (simp; done)) ?_
 refine zL [1, 9] ?_
 clear hL
 intro ρ hL
 refine grp_andN (tc := 9) (tv := 13) (td := 14) (v := ?v2) 4 rfl [] hL.2 rfl (fun hb K1 hK1 => ?run) (fun hb => ?skip) (fun ρ hP hM => ?_)
 case skip => exact skA (want := true) (b := _) (by rw [hb]; rfl) hL.2 rfl
 case run =>
  simp only [List.take_succ_cons, List.take_zero]
  rw [hb] at hL
  try simp only [go_sem, simprocAttr, hL, hX]
  repeat' refine And.intro (by first | rfl | omega | (simp; done)) ?_
  refine hK1 _ ?_ ?_ ?_ <;> simp only [go_sem, simprocAttr, hL, hX] <;> exact rfl
 simp only [List.drop_succ_cons, List.drop_zero]
 clear hM hL
 have hL := hP
 clear hP
 try simp only [go_sem, simprocAttr, hL, hX]
 repeat' refine And.intro (by first | rfl | omega | (simp; done)) ?_
 refine zE [2] ?_
 clear hK K hL
 refine zR ?_
 try simp only [go_sem, simprocAttr]
 all_goals (first | done | rfl | (simp; done) | (simp [opened]; done) | (simp_all [opened]; done) | (simp [opened]; grind))
theorem sat_spec_Point (w : Word) (n : Int)  : Sat Try.prog 28 [.agg w.cells, .int .i64 n] [] (.agg (Word.cells (point w n))) [] := by
 have hX := trivial
 refine sat_mk [.cell 4 28] 0 14 Try.call28 Try.func28 Try.ntmps28 rfl rfl rfl rfl rfl ?_
 refine zI [0, 1] ?_
 refine zS [1, 2, 4] ?_
 refine zSF [1, 2, 4, 7] (sat_spec_l4Open _) ?_
 refine zC ?_ ?_
 · intro c1
   refine zSF [4] (sat_spec_Plain _) ?_
   refine zR ?_
   try simp only [go_sem, simprocAttr]
   all_goals (first | done | rfl | (simp; done) | (simp [point, plain, low, band, noKey]; done) | (simp_all [point, plain, low, band, noKey]; done) | (simp [point, plain, low, band, noKey]; grind))
 · intro c1
   intro ρ hL
   refine awl_skip ?_
   revert ρ hL
   refine zS [2, 4] ?_
   refine zS [4] ?_
   refine zR ?_
   try simp only [go_sem, simprocAttr]
   all_goals (have := opened_is (by simpa using c1); simp_all [point, plain, low, band, noKey])
theorem sat_impl_Point (w : Word) (n : Int)  : Sat Try.prog 27 [.agg w.cells, .int .i64 n] [] (.agg (Word.cells (point w n))) [] := by
 have hX := trivial
 refine sat_mk [.cell 4 28] 0 15 Try.call27 Try.func27 Try.ntmps27 rfl rfl rfl rfl rfl ?_
 refine zI [0, 1] ?_
 refine zS [1, 2, 4] ?_
 refine zSF [2, 4, 5] (sat_impl_Plain _) ?_
 refine zSF [2, 4, 5, 9] (sat_impl_open _) ?_
 refine zC ?_ ?_
 · intro c1
   refine zD [0, 1, 0, 4, 15, 31] [4, 5] ?_
   refine zS [4] ?_
   refine zR ?_
   try simp only [go_sem, simprocAttr]
   all_goals (have := opened_is (by simpa using c1); simp_all [point, plain, low, band, noKey])
 · intro c1
   intro ρ hL
   refine awl_skip ?_
   revert ρ hL
   refine zS [4] ?_
   refine zR ?_
   try simp only [go_sem, simprocAttr]
   all_goals (first | done | rfl | (simp; done) | (simp [point, plain, low, band, noKey]; done) | (simp_all [point, plain, low, band, noKey]; done) | (simp [point, plain, low, band, noKey]; grind))
theorem sat_spec_Guess (xs : List Int) (w : Word) (hb0 : xs.length ≤ 1099511627776) : Sat Try.prog 14 [.sl xs.length xs.length (ints xs), .agg w.cells] [] (.agg (Word.cells (guess xs w))) [] := by
 have hX := trivial
 refine sat_mk [.cell 4 28] 0 31 Try.call14 Try.func14 Try.ntmps14 rfl rfl rfl rfl rfl ?_
 refine zI [0, 1] ?_
 refine zS [0, 3, 4] ?_
 have w0 : IntKind.i64.wrap ((xs.length : Int) - 1) = (xs.length : Int) - 1 := wrap64 (by omega)
 have hX0 := hX
 replace hX := And.intro w0 hX
 intro ρ hL
 refine zA ?_
 intro K hK
 refine zF (sat_spec_l1In _ _ _) ?_
 refine zL [0, 3, 4, 11] ?_
 clear hL
 intro ρ hL
 refine grp_andN (tc := 11) (tv := 17) (td := 18) (v := ?v1) 6 rfl [0, 3, 4] hL.2.2.2 rfl (fun hb K1 hK1 => ?run) (fun hb => ?skip) (fun ρ hP hM => ?_)
 case skip => exact skA (want := true) (b := _) (by rw [hb]; rfl) hL.2.2.2 rfl
 case run =>
  simp only [List.take_succ_cons, List.take_zero]
  rw [hb] at hL
  have hw := inR_iff.1 hb
  have hn2 : w.n.toNat < xs.length := by omega
  try simp only [go_sem, simprocAttr, hL, hX, hn2]
  repeat' refine And.intro (by first | rfl | omega | (simp; done)) ?_
  refine hK1 _ ?_ ?_ ?_ <;> simp only [go_sem, simprocAttr, hL, hX, hn2] <;> exact rfl
 simp only [List.drop_succ_cons, List.drop_zero]
 try simp only [go_sem, simprocAttr, hL, hX] at hM
 replace hL := And.intro hP hM
 clear hP hM
 try simp only [go_sem, simprocAttr, hL, hX]
 repeat' refine And.intro (by first | rfl | omega | (simp; done)) ?_
 refine zE [0, 3, 4, 18] ?_
 clear hK K hL
 clear hX
 have hX := hX0
 clear hX0
 refine zC ?_ ?_
 · intro c1
   have hw := inR_iff.1 c1.1
   have hn2 : w.n.toNat < xs.length := by omega
   have hX0 := hX
   replace hX := And.intro hn2 hX
   intro ρ hL
   refine zAD [0, 0, 0, 4, 14, 30, 63, 127] ?_
   intro K hK
   refine zFD [0, 0, 0, 4, 14, 30, 63, 127] (sat_spec_Point _ _) ?_
   refine zE [4] ?_
   clear hK K hL
   clear hX
   have hX := hX0
   clear hX0
   refine zR ?_
   try simp only [go_sem, simprocAttr]
   all_goals (simp_all [guess])
 · intro c1
   intro ρ hL
   refine awl_skip ?_
   revert ρ hL
   refine zSF [4] (sat_spec_Point _ _) ?_
   refine zR ?_
   try simp only [go_sem, simprocAttr]
   all_goals (rw [guess, if_neg (by rintro ⟨p, q⟩; simp_all)]; rfl)
theorem sat_impl_Guess (xs : List Int) (w : Word) (hb0 : xs.length ≤ 1099511627776) : Sat Try.prog 13 [.sl xs.length xs.length (ints xs), .agg w.cells] [] (.agg (Word.cells (guess xs w))) [] := by
 have hX := trivial
 refine sat_mk [.cell 4 28] 0 31 Try.call13 Try.func13 Try.ntmps13 rfl rfl rfl rfl rfl ?_
 refine zI [0, 1] ?_
 refine zS [0, 3, 4] ?_
 have w0 : IntKind.i64.wrap ((xs.length : Int) - 1) = (xs.length : Int) - 1 := wrap64 (by omega)
 have hX0 := hX
 replace hX := And.intro w0 hX
 intro ρ hL
 refine zA ?_
 intro K hK
 refine zF (sat_impl_in _ _ _) ?_
 refine zL [0, 3, 4, 11] ?_
 clear hL
 intro ρ hL
 refine grp_andN (tc := 11) (tv := 17) (td := 18) (v := ?v1) 6 rfl [0, 3, 4] hL.2.2.2 rfl (fun hb K1 hK1 => ?run) (fun hb => ?skip) (fun ρ hP hM => ?_)
 case skip => exact skA (want := true) (b := _) (by rw [hb]; rfl) hL.2.2.2 rfl
 case run =>
  simp only [List.take_succ_cons, List.take_zero]
  rw [hb] at hL
  have hw := inR_iff.1 hb
  have hn2 : w.n.toNat < xs.length := by omega
  try simp only [go_sem, simprocAttr, hL, hX, hn2]
  repeat' refine And.intro (by first | rfl | omega | (simp; done)) ?_
  refine hK1 _ ?_ ?_ ?_ <;> simp only [go_sem, simprocAttr, hL, hX, hn2] <;> exact rfl
 simp only [List.drop_succ_cons, List.drop_zero]
 try simp only [go_sem, simprocAttr, hL, hX] at hM
 replace hL := And.intro hP hM
 clear hP hM
 try simp only [go_sem, simprocAttr, hL, hX]
 repeat' refine And.intro (by first | rfl | omega | (simp; done)) ?_
 refine zE [0, 3, 4, 18] ?_
 clear hK K hL
 clear hX
 have hX := hX0
 clear hX0
 refine zC ?_ ?_
 · intro c1
   have hw := inR_iff.1 c1.1
   have hn2 : w.n.toNat < xs.length := by omega
   have hX0 := hX
   replace hX := And.intro hn2 hX
   intro ρ hL
   refine zAD [0, 0, 0, 4, 14, 30, 63, 127] ?_
   intro K hK
   refine zFD [0, 0, 0, 4, 14, 30, 63, 127] (sat_impl_Point _ _) ?_
   refine zE [4] ?_
   clear hK K hL
   clear hX
   have hX := hX0
   clear hX0
   refine zR ?_
   try simp only [go_sem, simprocAttr]
   all_goals (simp_all [guess])
 · intro c1
   intro ρ hL
   refine awl_skip ?_
   revert ρ hL
   refine zSF [4] (sat_impl_Point _ _) ?_
   refine zR ?_
   try simp only [go_sem, simprocAttr]
   all_goals (rw [guess, if_neg (by rintro ⟨p, q⟩; simp_all)]; rfl)
end Go.Proofs.Yteojcehneipgdaa.AM
