/- What is made of words; reach; guesses. No conditions but those each theorem bears. -/
import Derived.Test.YteojcehneipgdaaGreatFa
import Derived.Test.YteojcehneipgdaaGreatM4
import Derived.Test.YteojcehneipgdaaGreatCa5
set_option linter.unusedSimpArgs false
set_option linter.unusedVariables false
namespace Go.Proofs.YteojcehneipgdaaGreat.AM
open Go
set_option maxHeartbeats 8000000
set_option maxRecDepth 100000

theorem sat_spec_l4Open (w : Word)  : Sat Tryz.prog 192 [.agg w.cells] [] (.bool (opened w)) [] := by
 have hX := trivial
 refine sat_mk [.tmp 2] 0 15 Tryz.call192 Tryz.func192 Tryz.ntmps192 rfl rfl rfl rfl rfl ?_
 refine zI [0] ?_
 refine zS [1] ?_
 intro ρ hL
 refine zA ?_
 intro K hK
 refine zF (sat_spec_WordOk _) ?_
 refine zL [1, 5] ?_
 clear hL
 intro ρ hL
 refine grp_andN (tc := 5) (tv := 7) (td := 8) (v := ?v1) 2 rfl [1] hL.2 rfl (fun hb K1 hK1 => ?run) (fun hb => ?skip) (fun ρ hP hM => ?_)
 case skip => exact skA (want := true) (b := _) (by rw [hb]; rfl) hL.2 rfl
 case run =>
  simp only [List.take_succ_cons, List.take_zero]
  rw [hb] at hL
  try simp only [go_sem, simprocAttr, hL, hX]
  repeat' refine And.intro (by first | rfl | omega | (simp; done)) ?_
  refine hK1 _ ?_ ?_ ?_ <;> simp only [go_sem, simprocAttr, hL, hX] <;> exact rfl
 simp only [List.drop_succ_cons, List.drop_zero]
 try simp only [go_sem, simprocAttr, hL, hX] at hM
 replace hL := And.intro hP hM
 clear hP hM
 try simp only [go_sem, simprocAttr, hL, hX]
 repeat' refine And.intro (by first | rfl | omega | (simp; done)) ?_
 refine zL [1, 9] ?_
 clear hL
 intro ρ hL
 refine grp_andN (tc := 9) (tv := 13) (td := 14) (v := ?v2) 4 rfl [] hL.2 rfl (fun hb K1 hK1 => ?run) (fun hb => ?skip) (fun ρ hP hM => ?_)
 case skip => exact skA (want := true) (b := _) (by rw [hb]; rfl) hL.2 rfl
 case run =>
  simp only [List.take_succ_cons, List.take_zero]
  rw [hb] at hL
  try simp only [go_sem, simprocAttr, hL, hX]
  repeat' refine And.intro (by first | rfl | omega | (simp; done)) ?_
  refine hK1 _ ?_ ?_ ?_ <;> simp only [go_sem, simprocAttr, hL, hX] <;> exact rfl
 simp only [List.drop_succ_cons, List.drop_zero]
 clear hM hL
 have hL := hP
 clear hP
 try simp only [go_sem, simprocAttr, hL, hX]
 repeat' refine And.intro (by first | rfl | omega | (simp; done)) ?_
 refine zE [2] ?_
 clear hK K hL
 refine zR ?_
 try simp only [go_sem, simprocAttr]
 all_goals (first | done | rfl | (simp; done) | (simp [opened]; done) | (simp_all [opened]; done) | (simp [opened]; grind))
theorem sat_impl_open (w : Word)  : Sat Tryz.prog 205 [.agg w.cells] [] (.bool (opened w)) [] := by
 have hX := trivial
 refine sat_mk [.tmp 2] 0 15 Tryz.call205 Tryz.func205 Tryz.ntmps205 rfl rfl rfl rfl rfl ?_
 refine zI [0] ?_
 refine zS [1] ?_
 intro ρ hL
 refine zA ?_
 intro K hK
 refine zF (sat_impl_WordOk _) ?_
 refine zL [1, 5] ?_
 clear hL
 intro ρ hL
 refine grp_andN (tc := 5) (tv := 7) (td := 8) (v := ?v1) 2 rfl [1] hL.2 rfl (fun hb K1 hK1 => ?run) (fun hb => ?skip) (fun ρ hP hM => ?_)
 case skip => exact skA (want := true) (b := _) (by rw [hb]; rfl) hL.2 rfl
 case run =>
  simp only [List.take_succ_cons, List.take_zero]
  rw [hb] at hL
  try simp only [go_sem, simprocAttr, hL, hX]
  repeat' refine And.intro (by first | rfl | omega | (simp; done)) ?_
  refine hK1 _ ?_ ?_ ?_ <;> simp only [go_sem, simprocAttr, hL, hX] <;> exact rfl
 simp only [List.drop_succ_cons, List.drop_zero]
 try simp only [go_sem, simprocAttr, hL, hX] at hM
 replace hL := And.intro hP hM
 clear hP hM
 try simp only [go_sem, simprocAttr, hL, hX]
 repeat' refine And.intro (by first | rfl | omega | (simp; done)) ?_
 refine zL [1, 9] ?_
 clear hL
 intro ρ hL
 refine grp_andN (tc := 9) (tv := 13) (td := 14) (v := ?v2) 4 rfl [] hL.2 rfl (fun hb K1 hK1 => ?run) (fun hb => ?skip) (fun ρ hP hM => ?_)
 case skip => exact skA (want := true) (b := _) (by rw [hb]; rfl) hL.2 rfl
 case run =>
  simp only [List.take_succ_cons, List.take_zero]
  rw [hb] at hL
  try simp only [go_sem, simprocAttr, hL, hX]
  repeat' refine And.intro (by first | rfl | omega | (simp; done)) ?_
  refine hK1 _ ?_ ?_ ?_ <;> simp only [go_sem, simprocAttr, hL, hX] <;> exact rfl
 simp only [List.drop_succ_cons, List.drop_zero]
 clear hM hL
 have hL := hP
 clear hP
 try simp only [go_sem, simprocAttr, hL, hX]
 repeat' refine And.intro (by first | rfl | omega | (simp; done)) ?_
 refine zE [2] ?_
 clear hK K hL
 refine zR ?_
 try simp only [go_sem, simprocAttr]
 all_goals (first | done | rfl | (simp; done) | (simp [opened]; done) | (simp_all [opened]; done) | (simp [opened]; grind))
theorem sat_spec_Point (w : Word) (n : Int)  : Sat Tryz.prog 148 [.agg w.cells, .int .i64 n] [] (.agg (Word.cells (point w n))) [] := by
 have hX := trivial
 refine sat_mk [.cell 4 29] 0 14 Tryz.call148 Tryz.func148 Tryz.ntmps148 rfl rfl rfl rfl rfl ?_
 refine zI [0, 1] ?_
 refine zS [1, 2, 4] ?_
 refine zSF [1, 2, 4, 7] (sat_spec_l4Open _) ?_
 refine zC ?_ ?_
 · intro c1
   refine zSF [4] (sat_spec_Plain _) ?_
   refine zR ?_
   try simp only [go_sem, simprocAttr]
   all_goals (first | done | rfl | (simp; done) | (simp [point, plain, low, band, noKey]; done) | (simp_all [point, plain, low, band, noKey]; done) | (simp [point, plain, low, band, noKey]; grind))
 · intro c1
   intro ρ hL
   refine awl_skip ?_
   revert ρ hL
   refine zS [2, 4] ?_
   refine zS [4] ?_
   refine zR ?_
   try simp only [go_sem, simprocAttr]
   all_goals (have := opened_is (by simpa using c1); simp_all [point, plain, low, band, noKey])
theorem sat_impl_Point (w : Word) (n : Int)  : Sat Tryz.prog 168 [.agg w.cells, .int .i64 n] [] (.agg (Word.cells (point w n))) [] := by
 have hX := trivial
 refine sat_mk [.cell 4 29] 0 15 Tryz.call168 Tryz.func168 Tryz.ntmps168 rfl rfl rfl rfl rfl ?_
 refine zI [0, 1] ?_
 refine zS [1, 2, 4] ?_
 refine zSF [2, 4, 5] (sat_impl_Plain _) ?_
 refine zSF [2, 4, 5, 9] (sat_impl_open _) ?_
 refine zC ?_ ?_
 · intro c1
   refine zD [0, 1, 0, 4, 15, 31] [4, 5] ?_
   refine zS [4] ?_
   refine zR ?_
   try simp only [go_sem, simprocAttr]
   all_goals (have := opened_is (by simpa using c1); simp_all [point, plain, low, band, noKey])
 · intro c1
   intro ρ hL
   refine awl_skip ?_
   revert ρ hL
   refine zS [4] ?_
   refine zR ?_
   try simp only [go_sem, simprocAttr]
   all_goals (first | done | rfl | (simp; done) | (simp [point, plain, low, band, noKey]; done) | (simp_all [point, plain, low, band, noKey]; done) | (simp [point, plain, low, band, noKey]; grind))
theorem sat_spec_Bare (w : Word)  : Sat Tryz.prog 179 [.agg w.cells] [] (.agg (Word.cells (bare w))) [] := by
 have hX := trivial
 refine sat_mk [.cell 2 29] 0 6 Tryz.call179 Tryz.func179 Tryz.ntmps179 rfl rfl rfl rfl rfl ?_
 refine zI [0] ?_
 refine zS [1, 2] ?_
 refine zSF [2] (sat_spec_Plain _) ?_
 refine zR ?_
 try simp only [go_sem, simprocAttr]
 all_goals (simp [bare, plain, low, noKey])
theorem sat_spec_Weaken (w : Word) (n : Int)  : Sat Tryz.prog 193 [.agg w.cells, .int .i64 n] [] (.agg (Word.cells (weaken w n))) [] := by
 have hX := trivial
 refine sat_mk [.cell 4 29] 0 19 Tryz.call193 Tryz.func193 Tryz.ntmps193 rfl rfl rfl rfl rfl ?_
 refine zI [0, 1] ?_
 refine zS [1, 2, 4] ?_
 refine zSF [1, 2, 4, 7] (sat_spec_l4Open _) ?_
 refine zC ?_ ?_
 · intro c1
   refine zSF [4] (sat_spec_Bare _) ?_
   refine zR ?_
   try simp only [go_sem, simprocAttr]
   all_goals (first | done | rfl | (simp; done) | (simp [weaken, bare, plain, low, band, noKey]; done) | (simp_all [weaken, bare, plain, low, band, noKey]; done) | (simp [weaken, bare, plain, low, band, noKey]; grind))
 · intro c1
   intro ρ hL
   refine awl_skip ?_
   revert ρ hL
   refine zS [2, 4] ?_
   refine zS [4] ?_
   refine zR ?_
   try simp only [go_sem, simprocAttr]
   all_goals (first | done | rfl | (simp; done) | (simp [weaken, bare, plain, low, band, noKey]; done) | (simp_all [weaken, bare, plain, low, band, noKey]; done) | (simp [weaken, bare, plain, low, band, noKey]; grind))
theorem sat_impl_Weaken (w : Word) (n : Int)  : Sat Tryz.prog 212 [.agg w.cells, .int .i64 n] [] (.agg (Word.cells (weaken w n))) [] := by
 have hX := trivial
 refine sat_mk [.cell 4 29] 0 19 Tryz.call212 Tryz.func212 Tryz.ntmps212 rfl rfl rfl rfl rfl ?_
 refine zI [0, 1] ?_
 refine zS [1, 2, 4] ?_
 refine zSF [1, 2, 4, 7] (sat_impl_open _) ?_
 refine zC ?_ ?_
 · intro c1
   refine zSF [4] (sat_impl_Bare _) ?_
   refine zR ?_
   try simp only [go_sem, simprocAttr]
   all_goals (first | done | rfl | (simp; done) | (simp [weaken, bare, plain, low, band, noKey]; done) | (simp_all [weaken, bare, plain, low, band, noKey]; done) | (simp [weaken, bare, plain, low, band, noKey]; grind))
 · intro c1
   intro ρ hL
   refine awl_skip ?_
   revert ρ hL
   refine zS [2, 4] ?_
   refine zS [4] ?_
   refine zR ?_
   try simp only [go_sem, simprocAttr]
   all_goals (first | done | rfl | (simp; done) | (simp [weaken, bare, plain, low, band, noKey]; done) | (simp_all [weaken, bare, plain, low, band, noKey]; done) | (simp [weaken, bare, plain, low, band, noKey]; grind))
theorem sat_spec_Taken (by_ : Word) (w : Word)  : Sat Tryz.prog 132 [.agg by_.cells, .agg w.cells] [] (.agg (Word.cells (taken by_ w))) [] := by
 have hX := trivial
 refine sat_mk [.cell 4 29] 0 13 Tryz.call132 Tryz.func132 Tryz.ntmps132 rfl rfl rfl rfl rfl ?_
 refine zI [0, 1] ?_
 refine zS [2, 3, 4] ?_
 refine zS [3, 4, 9] ?_
 refine zC ?_ ?_
 · intro c1
   refine zSF [4] (sat_spec_Bare _) ?_
   refine zR ?_
   try simp only [go_sem, simprocAttr]
   all_goals (first | done | rfl | (simp; done) | (simp [taken, bare, plain, low, band, noKey]; done) | (simp_all [taken, bare, plain, low, band, noKey]; done) | (simp [taken, bare, plain, low, band, noKey]; grind))
 · intro c1
   intro ρ hL
   refine awl_skip ?_
   revert ρ hL
   refine zS [4] ?_
   refine zR ?_
   try simp only [go_sem, simprocAttr]
   all_goals (first | done | rfl | (simp; done) | (simp [taken, bare, plain, low, band, noKey]; done) | (simp_all [taken, bare, plain, low, band, noKey]; done) | (simp [taken, bare, plain, low, band, noKey]; grind))
theorem sat_impl_permits (by_ : Word) (p : Int)  : Sat Tryz.prog 178 [.agg by_.cells, .int .i64 p] [] (.bool (decide (band by_.key.perms p ≠ 0))) [] := by
 have hX := trivial
 refine sat_mk [.tmp 4] 0 11 Tryz.call178 Tryz.func178 Tryz.ntmps178 rfl rfl rfl rfl rfl ?_
 refine zI [0, 1] ?_
 refine zS [1, 2] ?_
 refine zS [4] ?_
 refine zR ?_
 try simp only [go_sem, simprocAttr]
 all_goals (first | done | rfl | (simp; done) | (simp [band]; done) | (simp_all [band]; done) | (simp [band]; grind))
theorem sat_impl_Taken (by_ : Word) (w : Word)  : Sat Tryz.prog 128 [.agg by_.cells, .agg w.cells] [] (.agg (Word.cells (taken by_ w))) [] := by
 have hX := trivial
 refine sat_mk [.cell 4 29] 0 10 Tryz.call128 Tryz.func128 Tryz.ntmps128 rfl rfl rfl rfl rfl ?_
 refine zI [0, 1] ?_
 refine zS [2, 3, 4] ?_
 refine zSF [3, 4, 6] (sat_impl_permits _ _) ?_
 refine zC ?_ ?_
 · intro c1
   refine zS [4] ?_
   refine zR ?_
   try simp only [go_sem, simprocAttr]
   all_goals (first | done | rfl | (simp; done) | (simp [taken, bare, plain, low, band, noKey]; done) | (simp_all [taken, bare, plain, low, band, noKey]; done) | (simp [taken, bare, plain, low, band, noKey]; grind))
 · intro c1
   intro ρ hL
   refine awl_skip ?_
   revert ρ hL
   refine zSF [4] (sat_impl_Bare _) ?_
   refine zR ?_
   try simp only [go_sem, simprocAttr]
   all_goals (first | done | rfl | (simp; done) | (simp [taken, bare, plain, low, band, noKey]; done) | (simp_all [taken, bare, plain, low, band, noKey]; done) | (simp [taken, bare, plain, low, band, noKey]; grind))
theorem sat_spec_MayPut (by_ : Word) (w : Word)  : Sat Tryz.prog 191 [.agg by_.cells, .agg w.cells] [] (.bool (mayPut by_ w)) [] := by
 have hX := trivial
 refine sat_mk [.tmp 4] 0 15 Tryz.call191 Tryz.func191 Tryz.ntmps191 rfl rfl rfl rfl rfl ?_
 refine zI [0, 1] ?_
 refine zS [2, 3] ?_
 intro ρ hL
 refine zA ?_
 intro K hK
 refine zL [2, 8] ?_
 clear hL
 intro ρ hL
 refine grp_orN (tc := 8) (tv := 13) (td := 14) (v := ?v1) 5 rfl [] hL.2 rfl (fun hb K1 hK1 => ?run) (fun hb => ?skip) (fun ρ hP hM => ?_)
 case skip => exact skA (want := false) (b := _) (by rw [hb]; rfl) hL.2 rfl
 case run =>
  simp only [List.take_succ_cons, List.take_zero]
  rw [hb] at hL
  try simp only [go_sem, simprocAttr, hL, hX]
  repeat' refine And.intro (by first | rfl | omega | (simp; done)) ?_
  refine hK1 _ ?_ ?_ ?_ <;> simp only [go_sem, simprocAttr, hL, hX] <;> exact rfl
 simp only [List.drop_succ_cons, List.drop_zero]
 clear hM hL
 have hL := hP
 clear hP
 try simp only [go_sem, simprocAttr, hL, hX]
 repeat' refine And.intro (by first | rfl | omega | (simp; done)) ?_
 refine zE [4] ?_
 clear hK K hL
 refine zR ?_
 try simp only [go_sem, simprocAttr]
 all_goals (first | done | rfl | (simp; done) | (simp [mayPut, band]; done) | (simp_all [mayPut, band]; done) | (simp [mayPut, band]; grind))
theorem sat_impl_MayPut (by_ : Word) (w : Word)  : Sat Tryz.prog 188 [.agg by_.cells, .agg w.cells] [] (.bool (mayPut by_ w)) [] := by
 have hX := trivial
 refine sat_mk [.tmp 4] 0 12 Tryz.call188 Tryz.func188 Tryz.ntmps188 rfl rfl rfl rfl rfl ?_
 refine zI [0, 1] ?_
 refine zS [2, 3] ?_
 intro ρ hL
 refine zA ?_
 intro K hK
 refine zL [2, 8] ?_
 clear hL
 intro ρ hL
 refine grp_orN (tc := 8) (tv := 10) (td := 11) (v := ?v1) 2 rfl [] hL.2 rfl (fun hb K1 hK1 => ?run) (fun hb => ?skip) (fun ρ hP hM => ?_)
 case skip => exact skA (want := false) (b := _) (by rw [hb]; rfl) hL.2 rfl
 case run =>
  simp only [List.take_succ_cons, List.take_zero]
  rw [hb] at hL
  try simp only [go_sem, simprocAttr, hL, hX]
  repeat' refine And.intro (by first | rfl | omega | (simp; done)) ?_
  refine zF (sat_impl_permits _ _) ?_
  refine hK1 _ ?_ ?_ ?_ <;> simp only [go_sem, simprocAttr, hL, hX] <;> exact rfl
 simp only [List.drop_succ_cons, List.drop_zero]
 clear hM hL
 have hL := hP
 clear hP
 try simp only [go_sem, simprocAttr, hL, hX]
 repeat' refine And.intro (by first | rfl | omega | (simp; done)) ?_
 refine zE [4] ?_
 clear hK K hL
 refine zR ?_
 try simp only [go_sem, simprocAttr]
 all_goals (first | done | rfl | (simp; done) | (simp [mayPut, band]; done) | (simp_all [mayPut, band]; done) | (simp [mayPut, band]; grind))
theorem sat_spec_Try (w : Word) (n : Int) (p : Int)  : Sat Tryz.prog 145 [.agg w.cells, .int .i64 n, .int .i64 p] [] (.int .i64 (tryW w n p)) [] := by
 have hX := trivial
 refine sat_mk [.tmp 6] 0 42 Tryz.call145 Tryz.func145 Tryz.ntmps145 rfl rfl rfl rfl rfl ?_
 refine zI [0, 1, 2] ?_
 refine zS [1, 2, 3] ?_
 intro ρ hL
 refine awl_seq ?_
 refine awl_block fun R1 hw1 hR1 => ?_
 refine zA ?_
 intro K hK
 refine zF (sat_spec_WordOk _) ?_
 refine zL [1, 2, 3, 11] ?_
 clear hL
 intro ρ hL
 refine grp_orN (tc := 11) (tv := 14) (td := 15) (v := ?v1) 3 rfl [1, 2, 3] hL.2.2.2 rfl (fun hb K1 hK1 => ?run) (fun hb => ?skip) (fun ρ hP hM => ?_)
 case skip => exact skA (want := false) (b := _) (by rw [hb]; rfl) hL.2.2.2 rfl
 case run =>
  simp only [List.take_succ_cons, List.take_zero]
  rw [hb] at hL
  try simp only [go_sem, simprocAttr, hL, hX]
  repeat' refine And.intro (by first | rfl | omega | (simp; done)) ?_
  refine hK1 _ ?_ ?_ ?_ <;> simp only [go_sem, simprocAttr, hL, hX] <;> exact rfl
 simp only [List.drop_succ_cons, List.drop_zero]
 try simp only [go_sem, simprocAttr, hL, hX] at hM
 replace hL := And.intro hP hM
 clear hP hM
 try simp only [go_sem, simprocAttr, hL, hX]
 repeat' refine And.intro (by first | rfl | omega | (simp; done)) ?_
 refine zE [1, 2, 3, 7] ?_
 clear hK K hL
 refine zC ?_ ?_
 · intro c1
   refine zS [6] ?_
   refine zR ?_
   try simp only [go_sem, simprocAttr]
   all_goals try clear hR1
   all_goals (simp_all [tryW])
 · intro c1
   refine zS [1, 2, 3, 16] ?_
   refine zC ?_ ?_
   · intro c2
     refine zS [6] ?_
     refine zR ?_
     try simp only [go_sem, simprocAttr]
     all_goals try clear hR1
     all_goals (simp_all [tryW])
   · intro c2
     refine zS [1, 3, 21] ?_
     refine zC ?_ ?_
     · intro c3
       refine zS [6] ?_
       refine zR ?_
       try simp only [go_sem, simprocAttr]
       all_goals try clear hR1
       all_goals (simp_all [tryW, band])
     · intro c3
       intro ρ hL
       refine zA ?_
       intro K hK
       refine zL [1, 3, 35] ?_
       clear hL
       intro ρ hL
       refine grp_orN (tc := 35) (tv := 40) (td := 41) (v := ?v2) 5 rfl [] hL.2.2 rfl (fun hb K1 hK1 => ?run) (fun hb => ?skip) (fun ρ hP hM => ?_)
       case skip => exact skA (want := false) (b := _) (by rw [hb]; rfl) hL.2.2 rfl
       case run =>
        simp only [List.take_succ_cons, List.take_zero]
        rw [hb] at hL
        try simp only [go_sem, simprocAttr, hL, hX]
        repeat' refine And.intro (by first | rfl | omega | (simp; done)) ?_
        refine hK1 _ ?_ ?_ ?_ <;> simp only [go_sem, simprocAttr, hL, hX] <;> exact rfl
       simp only [List.drop_succ_cons, List.drop_zero]
       clear hM hL
       have hL := hP
       clear hP
       try simp only [go_sem, simprocAttr, hL, hX]
       repeat' refine And.intro (by first | rfl | omega | (simp; done)) ?_
       refine zE [29] ?_
       clear hK K hL
       refine zC ?_ ?_
       · intro c4
         refine zS [6] ?_
         refine zR ?_
         try simp only [go_sem, simprocAttr]
         all_goals try clear hR1
         all_goals (simp_all [tryW, band] <;> omega)
       · intro c4
         intro ρ hL
         refine awl_skip ?_
         refine awl_nil ?_
         refine blk_normal (hR1 _ _ (.mk ?_))
         revert ρ hL
         refine zS [6] ?_
         refine zR ?_
         try simp only [go_sem, simprocAttr]
         all_goals try clear hR1
         all_goals (simp_all [tryW, band] <;> omega)
theorem sat_impl_Try (w : Word) (n : Int) (p : Int) (hp : 0 ≤ p ∧ p ≤ 63) : Sat Tryz.prog 166 [.agg w.cells, .int .i64 n, .int .i64 p] [] (.int .i64 (tryW w n p)) [] := by
 have hX := trivial
 refine sat_mk [.tmp 6] 0 41 Tryz.call166 Tryz.func166 Tryz.ntmps166 rfl rfl rfl rfl rfl ?_
 refine zI [0, 1, 2] ?_
 refine zS [1, 2, 3] ?_
 intro ρ hL
 refine awl_seq ?_
 refine awl_block fun R1 hw1 hR1 => ?_
 refine zA ?_
 intro K hK
 refine zL [1, 2, 3, 11] ?_
 clear hL
 intro ρ hL
 refine grp_orN (tc := 11) (tv := 14) (td := 15) (v := ?v1) 3 rfl [1, 2, 3] hL.2.2.2 rfl (fun hb K1 hK1 => ?run) (fun hb => ?skip) (fun ρ hP hM => ?_)
 case skip => exact skA (want := false) (b := _) (by rw [hb]; rfl) hL.2.2.2 rfl
 case run =>
  simp only [List.take_succ_cons, List.take_zero]
  rw [hb] at hL
  try simp only [go_sem, simprocAttr, hL, hX]
  repeat' refine And.intro (by first | rfl | omega | (simp; done)) ?_
  refine zF (sat_impl_WordOk _) ?_
  refine hK1 _ ?_ ?_ ?_ <;> simp only [go_sem, simprocAttr, hL, hX] <;> exact rfl
 simp only [List.drop_succ_cons, List.drop_zero]
 try simp only [go_sem, simprocAttr, hL, hX] at hM
 replace hL := And.intro hP hM
 clear hP hM
 try simp only [go_sem, simprocAttr, hL, hX]
 repeat' refine And.intro (by first | rfl | omega | (simp; done)) ?_
 refine zE [1, 2, 3, 7] ?_
 clear hK K hL
 refine zC ?_ ?_
 · intro c1
   refine zS [6] ?_
   refine zR ?_
   try simp only [go_sem, simprocAttr]
   all_goals try clear hR1
   all_goals (rcases c1 with c1 | c1 <;> simp_all [tryW])
 · intro c1
   refine zS [1, 2, 3, 16] ?_
   refine zC ?_ ?_
   · intro c2
     refine zS [6] ?_
     refine zR ?_
     try simp only [go_sem, simprocAttr]
     all_goals try clear hR1
     all_goals (simp_all [tryW])
   · intro c2
     refine zS [1, 3, 21] ?_
     refine zC ?_ ?_
     · intro c3
       refine zS [6] ?_
       refine zR ?_
       try simp only [go_sem, simprocAttr]
       all_goals try clear hR1
       all_goals (rw [andNot_zero hp] at c3; simp_all [tryW])
     · intro c3
       intro ρ hL
       refine zA ?_
       intro K hK
       refine zL [1, 3, 34] ?_
       clear hL
       intro ρ hL
       refine grp_orN (tc := 34) (tv := 39) (td := 40) (v := ?v2) 5 rfl [] hL.2.2 rfl (fun hb K1 hK1 => ?run) (fun hb => ?skip) (fun ρ hP hM => ?_)
       case skip => exact skA (want := false) (b := _) (by rw [hb]; rfl) hL.2.2 rfl
       case run =>
        simp only [List.take_succ_cons, List.take_zero]
        rw [hb] at hL
        try simp only [go_sem, simprocAttr, hL, hX]
        repeat' refine And.intro (by first | rfl | omega | (simp; done)) ?_
        refine hK1 _ ?_ ?_ ?_ <;> simp only [go_sem, simprocAttr, hL, hX] <;> exact rfl
       simp only [List.drop_succ_cons, List.drop_zero]
       clear hM hL
       have hL := hP
       clear hP
       try simp only [go_sem, simprocAttr, hL, hX]
       repeat' refine And.intro (by first | rfl | omega | (simp; done)) ?_
       refine zE [28] ?_
       clear hK K hL
       refine zC ?_ ?_
       · intro c4
         refine zS [6] ?_
         refine zR ?_
         try simp only [go_sem, simprocAttr]
         all_goals try clear hR1
         all_goals (rw [andNot_zero hp] at c3; simp_all [tryW])
       · intro c4
         intro ρ hL
         refine awl_skip ?_
         refine awl_nil ?_
         refine blk_normal (hR1 _ _ (.mk ?_))
         revert ρ hL
         refine zS [6] ?_
         refine zR ?_
         try simp only [go_sem, simprocAttr]
         all_goals try clear hR1
         all_goals (rw [andNot_zero hp] at c3; simp_all [tryW] <;> omega)
theorem sat_spec_Guess (xs : List Int) (w : Word) (hb0 : xs.length ≤ 1099511627776) : Sat Tryz.prog 100 [.sl xs.length xs.length (ints xs), .agg w.cells] [] (.agg (Word.cells (guess xs w))) [] := by
 have hX := trivial
 refine sat_mk [.cell 4 29] 0 31 Tryz.call100 Tryz.func100 Tryz.ntmps100 rfl rfl rfl rfl rfl ?_
 refine zI [0, 1] ?_
 refine zS [0, 3, 4] ?_
 have w0 : IntKind.i64.wrap ((xs.length : Int) - 1) = (xs.length : Int) - 1 := wrap64 (by omega)
 have hX0 := hX
 replace hX := And.intro w0 hX
 intro ρ hL
 refine zA ?_
 intro K hK
 refine zF (sat_spec_l1In _ _ _) ?_
 refine zL [0, 3, 4, 11] ?_
 clear hL
 intro ρ hL
 refine grp_andN (tc := 11) (tv := 17) (td := 18) (v := ?v1) 6 rfl [0, 3, 4] hL.2.2.2 rfl (fun hb K1 hK1 => ?run) (fun hb => ?skip) (fun ρ hP hM => ?_)
 case skip => exact skA (want := true) (b := _) (by rw [hb]; rfl) hL.2.2.2 rfl
 case run =>
  simp only [List.take_succ_cons, List.take_zero]
  rw [hb] at hL
  have hw := inR_iff.1 hb
  have hn2 : w.n.toNat < xs.length := by omega
  try simp only [go_sem, simprocAttr, hL, hX, hn2]
  repeat' refine And.intro (by first | rfl | omega | (simp; done)) ?_
  refine hK1 _ ?_ ?_ ?_ <;> simp only [go_sem, simprocAttr, hL, hX, hn2] <;> exact rfl
 simp only [List.drop_succ_cons, List.drop_zero]
 try simp only [go_sem, simprocAttr, hL, hX] at hM
 replace hL := And.intro hP hM
 clear hP hM
 try simp only [go_sem, simprocAttr, hL, hX]
 repeat' refine And.intro (by first | rfl | omega | (simp; done)) ?_
 refine zE [0, 3, 4, 18] ?_
 clear hK K hL
 clear hX
 have hX := hX0
 clear hX0
 refine zC ?_ ?_
 · intro c1
   have hw := inR_iff.1 c1.1
   have hn2 : w.n.toNat < xs.length := by omega
   have hX0 := hX
   replace hX := And.intro hn2 hX
   intro ρ hL
   refine zAD [0, 0, 0, 4, 14, 30, 63, 127] ?_
   intro K hK
   refine zFD [0, 0, 0, 4, 14, 30, 63, 127] (sat_spec_Point _ _) ?_
   refine zE [4] ?_
   clear hK K hL
   clear hX
   have hX := hX0
   clear hX0
   refine zR ?_
   try simp only [go_sem, simprocAttr]
   all_goals (simp_all [guess])
 · intro c1
   intro ρ hL
   refine awl_skip ?_
   revert ρ hL
   refine zSF [4] (sat_spec_Point _ _) ?_
   refine zR ?_
   try simp only [go_sem, simprocAttr]
   all_goals (rw [guess, if_neg (by rintro ⟨p, q⟩; simp_all)]; rfl)
theorem sat_impl_Guess (xs : List Int) (w : Word) (hb0 : xs.length ≤ 1099511627776) : Sat Tryz.prog 97 [.sl xs.length xs.length (ints xs), .agg w.cells] [] (.agg (Word.cells (guess xs w))) [] := by
 have hX := trivial
 refine sat_mk [.cell 4 29] 0 31 Tryz.call97 Tryz.func97 Tryz.ntmps97 rfl rfl rfl rfl rfl ?_
 refine zI [0, 1] ?_
 refine zS [0, 3, 4] ?_
 have w0 : IntKind.i64.wrap ((xs.length : Int) - 1) = (xs.length : Int) - 1 := wrap64 (by omega)
 have hX0 := hX
 replace hX := And.intro w0 hX
 intro ρ hL
 refine zA ?_
 intro K hK
 refine zF (sat_impl_in _ _ _) ?_
 refine zL [0, 3, 4, 11] ?_
 clear hL
 intro ρ hL
 refine grp_andN (tc := 11) (tv := 17) (td := 18) (v := ?v1) 6 rfl [0, 3, 4] hL.2.2.2 rfl (fun hb K1 hK1 => ?run) (fun hb => ?skip) (fun ρ hP hM => ?_)
 case skip => exact skA (want := true) (b := _) (by rw [hb]; rfl) hL.2.2.2 rfl
 case run =>
  simp only [List.take_succ_cons, List.take_zero]
  rw [hb] at hL
  have hw := inR_iff.1 hb
  have hn2 : w.n.toNat < xs.length := by omega
  try simp only [go_sem, simprocAttr, hL, hX, hn2]
  repeat' refine And.intro (by first | rfl | omega | (simp; done)) ?_
  refine hK1 _ ?_ ?_ ?_ <;> simp only [go_sem, simprocAttr, hL, hX, hn2] <;> exact rfl
 simp only [List.drop_succ_cons, List.drop_zero]
 try simp only [go_sem, simprocAttr, hL, hX] at hM
 replace hL := And.intro hP hM
 clear hP hM
 try simp only [go_sem, simprocAttr, hL, hX]
 repeat' refine And.intro (by first | rfl | omega | (simp; done)) ?_
 refine zE [0, 3, 4, 18] ?_
 clear hK K hL
 clear hX
 have hX := hX0
 clear hX0
 refine zC ?_ ?_
 · intro c1
   have hw := inR_iff.1 c1.1
   have hn2 : w.n.toNat < xs.length := by omega
   have hX0 := hX
   replace hX := And.intro hn2 hX
   intro ρ hL
   refine zAD [0, 0, 0, 4, 14, 30, 63, 127] ?_
   intro K hK
   refine zFD [0, 0, 0, 4, 14, 30, 63, 127] (sat_impl_Point _ _) ?_
   refine zE [4] ?_
   clear hK K hL
   clear hX
   have hX := hX0
   clear hX0
   refine zR ?_
   try simp only [go_sem, simprocAttr]
   all_goals (simp_all [guess])
 · intro c1
   intro ρ hL
   refine awl_skip ?_
   revert ρ hL
   refine zSF [4] (sat_impl_Point _ _) ?_
   refine zR ?_
   try simp only [go_sem, simprocAttr]
   all_goals (rw [guess, if_neg (by rintro ⟨p, q⟩; simp_all)]; rfl)
end Go.Proofs.YteojcehneipgdaaGreat.AM
