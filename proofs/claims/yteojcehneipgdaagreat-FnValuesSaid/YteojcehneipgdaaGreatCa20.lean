/- What is made of words; what a command comes to. No conditions but those each theorem bears. -/
import Derived.Test.YteojcehneipgdaaGreatFa
import Derived.Test.YteojcehneipgdaaGreatM5
import Derived.Test.YteojcehneipgdaaGreatCa5b
import Derived.Test.YteojcehneipgdaaGreatCa10
set_option linter.unusedSimpArgs false
set_option linter.unusedVariables false
namespace Go.Proofs.YteojcehneipgdaaGreat.AM
open Go
set_option maxHeartbeats 8000000
set_option maxRecDepth 100000

theorem sat_spec_Narrow (w : Word) (n : Int)  : Sat Tryz.prog 194 [.agg w.cells, .int .i64 n] [] (.agg (Word.cells (narrow w n))) [] := by
 have hX := trivial
 refine sat_mk [.cell 4 29] 0 58 Tryz.call194 Tryz.func194 Tryz.ntmps194 rfl rfl rfl rfl rfl ?_
 refine zI [0, 1] ?_
 refine zS [1, 2, 4] ?_
 intro ρ hL
 refine zA ?_
 intro K hK
 refine zF (sat_spec_l4Open _) ?_
 refine zL [1, 2, 4, 10] ?_
 clear hL
 intro ρ hL
 refine grp_orN (tc := 10) (tv := 13) (td := 14) (v := ?v1) 3 rfl [1, 2, 4] hL.2.2.2 rfl (fun hb K1 hK1 => ?run) (fun hb => ?skip) (fun ρ hP hM => ?_)
 case skip => exact skA (want := false) (b := _) (by rw [hb]; rfl) hL.2.2.2 rfl
 case run =>
  simp only [List.take_succ_cons, List.take_zero]
  rw [hb] at hL
  try simp only [go_sem, simprocAttr, hL, hX]
  repeat' refine And.intro (by first | rfl | omega | (simp; done)) ?_
  refine zF (sat_spec_l1In _ _ _) ?_
  refine hK1 _ ?_ ?_ ?_ <;> simp only [go_sem, simprocAttr, hL, hX] <;> exact rfl
 simp only [List.drop_succ_cons, List.drop_zero]
 try simp only [go_sem, simprocAttr, hL, hX] at hM
 replace hL := And.intro hP hM
 clear hP hM
 try simp only [go_sem, simprocAttr, hL, hX]
 repeat' refine And.intro (by first | rfl | omega | (simp; done)) ?_
 refine zL [1, 2, 4, 15] ?_
 clear hL
 intro ρ hL
 refine grp_orN (tc := 15) (tv := 23) (td := 24) (v := ?v2) 8 rfl [1, 2, 4] hL.2.2.2 rfl (fun hb K1 hK1 => ?run) (fun hb => ?skip) (fun ρ hP hM => ?_)
 case skip => exact skA (want := false) (b := _) (by rw [hb]; rfl) hL.2.2.2 rfl
 case run =>
  simp only [List.take_succ_cons, List.take_zero]
  rw [hb] at hL
  try simp only [go_sem, simprocAttr, hL, hX]
  repeat' refine And.intro (by first | rfl | omega | (simp; done)) ?_
  refine zF (sat_spec_BoundsOk _ _) ?_
  refine hK1 _ ?_ ?_ ?_ <;> simp only [go_sem, simprocAttr, hL, hX] <;> exact rfl
 simp only [List.drop_succ_cons, List.drop_zero]
 try simp only [go_sem, simprocAttr, hL, hX] at hM
 replace hL := And.intro hP hM
 clear hP hM
 try simp only [go_sem, simprocAttr, hL, hX]
 repeat' refine And.intro (by first | rfl | omega | (simp; done)) ?_
 refine zE [1, 2, 4, 24] ?_
 clear hK K hL
 refine zC ?_ ?_
 · intro c1
   refine zSF [4] (sat_spec_Bare _) ?_
   refine zR ?_
   try simp only [go_sem, simprocAttr]
   all_goals (rw [narrow, if_neg (by simp only [wadd]; rintro ⟨a, b, d, e, f⟩; rw [a, b, d] at c1; simp at c1)] <;> simp only [bare, plain, low, noKey])
 · intro c1
   intro ρ hL
   refine awl_skip ?_
   revert ρ hL
   refine zSF [2, 4, 5, 6] (sat_spec_Wide _ _) ?_
   intro ρ hL
   refine zA ?_
   intro K hK
   refine zL [2, 4, 5, 6, 42] ?_
   clear hL
   intro ρ hL
   refine grp_orN (tc := 42) (tv := 47) (td := 48) (v := ?v3) 5 rfl [2, 4, 5, 6] hL.2.2.2.2 rfl (fun hb K1 hK1 => ?run) (fun hb => ?skip) (fun ρ hP hM => ?_)
   case skip => exact skA (want := false) (b := _) (by rw [hb]; rfl) hL.2.2.2.2 rfl
   case run =>
    simp only [List.take_succ_cons, List.take_zero]
    rw [hb] at hL
    try simp only [go_sem, simprocAttr, hL, hX]
    repeat' refine And.intro (by first | rfl | omega | (simp; done)) ?_
    refine hK1 _ ?_ ?_ ?_ <;> simp only [go_sem, simprocAttr, hL, hX] <;> exact rfl
   simp only [List.drop_succ_cons, List.drop_zero]
   try simp only [go_sem, simprocAttr, hL, hX] at hM
   replace hL := And.intro hP hM
   clear hP hM
   try simp only [go_sem, simprocAttr, hL, hX]
   repeat' refine And.intro (by first | rfl | omega | (simp; done)) ?_
   refine zE [2, 4, 5, 6, 48] ?_
   clear hK K hL
   refine zC ?_ ?_
   · intro c2
     refine zSF [4] (sat_spec_Bare _) ?_
     refine zR ?_
     try simp only [go_sem, simprocAttr]
     all_goals (rw [narrow, if_neg (by simp only [wadd]; rintro ⟨a, b, d, e, f⟩; omega)] <;> simp only [bare, plain, low, noKey])
   · intro c2
     intro ρ hL
     refine awl_skip ?_
     revert ρ hL
     refine zS [2, 4, 6] ?_
     refine zS [2, 4] ?_
     refine zS [4] ?_
     refine zR ?_
     try simp only [go_sem, simprocAttr]
     all_goals (rw [narrow, if_pos (by simp only [wadd]; obtain ⟨⟨a, b⟩, d⟩ := c1; exact ⟨a, b, d, by omega, by omega⟩)] <;> rfl)
theorem sat_impl_Narrow (w : Word) (n : Int)  : Sat Tryz.prog 213 [.agg w.cells, .int .i64 n] [] (.agg (Word.cells (narrow w n))) [] := by
 have hX := trivial
 refine sat_mk [.cell 4 29] 0 61 Tryz.call213 Tryz.func213 Tryz.ntmps213 rfl rfl rfl rfl rfl ?_
 refine zI [0, 1] ?_
 refine zS [1, 2, 4] ?_
 intro ρ hL
 refine zA ?_
 intro K hK
 refine zF (sat_impl_open _) ?_
 refine zL [1, 2, 4, 10] ?_
 clear hL
 intro ρ hL
 refine grp_orN (tc := 10) (tv := 12) (td := 13) (v := ?v1) 2 rfl [1, 2, 4] hL.2.2.2 rfl (fun hb K1 hK1 => ?run) (fun hb => ?skip) (fun ρ hP hM => ?_)
 case skip => exact skA (want := false) (b := _) (by rw [hb]; rfl) hL.2.2.2 rfl
 case run =>
  simp only [List.take_succ_cons, List.take_zero]
  rw [hb] at hL
  try simp only [go_sem, simprocAttr, hL, hX]
  repeat' refine And.intro (by first | rfl | omega | (simp; done)) ?_
  refine hK1 _ ?_ ?_ ?_ <;> simp only [go_sem, simprocAttr, hL, hX] <;> exact rfl
 simp only [List.drop_succ_cons, List.drop_zero]
 try simp only [go_sem, simprocAttr, hL, hX] at hM
 replace hL := And.intro hP hM
 clear hP hM
 try simp only [go_sem, simprocAttr, hL, hX]
 repeat' refine And.intro (by first | rfl | omega | (simp; done)) ?_
 refine zL [1, 2, 4, 14] ?_
 clear hL
 intro ρ hL
 refine grp_orN (tc := 14) (tv := 16) (td := 17) (v := ?v2) 2 rfl [1, 2, 4] hL.2.2.2 rfl (fun hb K1 hK1 => ?run) (fun hb => ?skip) (fun ρ hP hM => ?_)
 case skip => exact skA (want := false) (b := _) (by rw [hb]; rfl) hL.2.2.2 rfl
 case run =>
  simp only [List.take_succ_cons, List.take_zero]
  rw [hb] at hL
  try simp only [go_sem, simprocAttr, hL, hX]
  repeat' refine And.intro (by first | rfl | omega | (simp; done)) ?_
  refine hK1 _ ?_ ?_ ?_ <;> simp only [go_sem, simprocAttr, hL, hX] <;> exact rfl
 simp only [List.drop_succ_cons, List.drop_zero]
 try simp only [go_sem, simprocAttr, hL, hX] at hM
 replace hL := And.intro hP hM
 clear hP hM
 try simp only [go_sem, simprocAttr, hL, hX]
 repeat' refine And.intro (by first | rfl | omega | (simp; done)) ?_
 refine zL [1, 2, 4, 18] ?_
 clear hL
 intro ρ hL
 refine grp_orN (tc := 18) (tv := 26) (td := 27) (v := ?v3) 8 rfl [1, 2, 4] hL.2.2.2 rfl (fun hb K1 hK1 => ?run) (fun hb => ?skip) (fun ρ hP hM => ?_)
 case skip => exact skA (want := false) (b := _) (by rw [hb]; rfl) hL.2.2.2 rfl
 case run =>
  simp only [List.take_succ_cons, List.take_zero]
  rw [hb] at hL
  try simp only [go_sem, simprocAttr, hL, hX]
  repeat' refine And.intro (by first | rfl | omega | (simp; done)) ?_
  refine zF (sat_impl_BoundsOk _ _) ?_
  refine hK1 _ ?_ ?_ ?_ <;> simp only [go_sem, simprocAttr, hL, hX] <;> exact rfl
 simp only [List.drop_succ_cons, List.drop_zero]
 try simp only [go_sem, simprocAttr, hL, hX] at hM
 replace hL := And.intro hP hM
 clear hP hM
 try simp only [go_sem, simprocAttr, hL, hX]
 repeat' refine And.intro (by first | rfl | omega | (simp; done)) ?_
 refine zE [1, 2, 4, 27] ?_
 clear hK K hL
 refine zC ?_ ?_
 · intro c1
   refine zSF [4] (sat_impl_Bare _) ?_
   refine zR ?_
   try simp only [go_sem, simprocAttr]
   all_goals (rw [narrow, if_neg (by simp only [wadd]; rintro ⟨a, b, d, e, f⟩; have := inR_iff.1 b; rw [a, d] at c1; simp at c1; omega)] <;> simp only [bare, plain, low, noKey])
 · intro c1
   intro ρ hL
   refine awl_skip ?_
   revert ρ hL
   refine zSF [2, 4, 5, 6] (sat_impl_Wide _ _) ?_
   intro ρ hL
   refine zA ?_
   intro K hK
   refine zL [2, 4, 5, 6, 45] ?_
   clear hL
   intro ρ hL
   refine grp_orN (tc := 45) (tv := 50) (td := 51) (v := ?v4) 5 rfl [2, 4, 5, 6] hL.2.2.2.2 rfl (fun hb K1 hK1 => ?run) (fun hb => ?skip) (fun ρ hP hM => ?_)
   case skip => exact skA (want := false) (b := _) (by rw [hb]; rfl) hL.2.2.2.2 rfl
   case run =>
    simp only [List.take_succ_cons, List.take_zero]
    rw [hb] at hL
    try simp only [go_sem, simprocAttr, hL, hX]
    repeat' refine And.intro (by first | rfl | omega | (simp; done)) ?_
    refine hK1 _ ?_ ?_ ?_ <;> simp only [go_sem, simprocAttr, hL, hX] <;> exact rfl
   simp only [List.drop_succ_cons, List.drop_zero]
   try simp only [go_sem, simprocAttr, hL, hX] at hM
   replace hL := And.intro hP hM
   clear hP hM
   try simp only [go_sem, simprocAttr, hL, hX]
   repeat' refine And.intro (by first | rfl | omega | (simp; done)) ?_
   refine zE [2, 4, 5, 6, 51] ?_
   clear hK K hL
   refine zC ?_ ?_
   · intro c2
     refine zSF [4] (sat_impl_Bare _) ?_
     refine zR ?_
     try simp only [go_sem, simprocAttr]
     all_goals (rw [narrow, if_neg (by simp only [wadd]; rintro ⟨a, b, d, e, f⟩; omega)] <;> simp only [bare, plain, low, noKey])
   · intro c2
     intro ρ hL
     refine awl_skip ?_
     revert ρ hL
     refine zS [2, 4] ?_
     refine zS [4] ?_
     refine zR ?_
     try simp only [go_sem, simprocAttr]
     all_goals (rw [narrow, if_pos (by simp only [wadd]; obtain ⟨⟨⟨a, b⟩, b2⟩, d⟩ := c1; exact ⟨a, inR_iff.2 (by omega), d, by omega, by omega⟩)] <;> rfl)
theorem sat_spec_l4Sealer (w : Word)  : Sat Tryz.prog 218 [.agg w.cells] [] (.bool (sealer w)) [] := by
 have hX := trivial
 refine sat_mk [.tmp 2] 0 33 Tryz.call218 Tryz.func218 Tryz.ntmps218 rfl rfl rfl rfl rfl ?_
 refine zI [0] ?_
 refine zS [1] ?_
 intro ρ hL
 refine zA ?_
 intro K hK
 refine zF (sat_spec_l4Open _) ?_
 refine zL [1, 5] ?_
 clear hL
 intro ρ hL
 refine grp_andN (tc := 5) (tv := 10) (td := 11) (v := ?v1) 5 rfl [1] hL.2 rfl (fun hb K1 hK1 => ?run) (fun hb => ?skip) (fun ρ hP hM => ?_)
 case skip => exact skA (want := true) (b := _) (by rw [hb]; rfl) hL.2 rfl
 case run =>
  simp only [List.take_succ_cons, List.take_zero]
  rw [hb] at hL
  try simp only [go_sem, simprocAttr, hL, hX]
  repeat' refine And.intro (by first | rfl | omega | (simp; done)) ?_
  refine hK1 _ ?_ ?_ ?_ <;> simp only [go_sem, simprocAttr, hL, hX] <;> exact rfl
 simp only [List.drop_succ_cons, List.drop_zero]
 try simp only [go_sem, simprocAttr, hL, hX] at hM
 replace hL := And.intro hP hM
 clear hP hM
 try simp only [go_sem, simprocAttr, hL, hX]
 repeat' refine And.intro (by first | rfl | omega | (simp; done)) ?_
 refine zL [1, 12] ?_
 clear hL
 intro ρ hL
 refine grp_andN (tc := 12) (tv := 18) (td := 19) (v := ?v2) 6 rfl [1] hL.2 rfl (fun hb K1 hK1 => ?run) (fun hb => ?skip) (fun ρ hP hM => ?_)
 case skip => exact skA (want := true) (b := _) (by rw [hb]; rfl) hL.2 rfl
 case run =>
  simp only [List.take_succ_cons, List.take_zero]
  rw [hb] at hL
  try simp only [go_sem, simprocAttr, hL, hX]
  repeat' refine And.intro (by first | rfl | omega | (simp; done)) ?_
  refine hK1 _ ?_ ?_ ?_ <;> simp only [go_sem, simprocAttr, hL, hX] <;> exact rfl
 simp only [List.drop_succ_cons, List.drop_zero]
 try simp only [go_sem, simprocAttr, hL, hX] at hM
 replace hL := And.intro hP hM
 clear hP hM
 try simp only [go_sem, simprocAttr, hL, hX]
 repeat' refine And.intro (by first | rfl | omega | (simp; done)) ?_
 refine zL [1, 20] ?_
 clear hL
 intro ρ hL
 refine grp_andN (tc := 20) (tv := 26) (td := 27) (v := ?v3) 6 rfl [1] hL.2 rfl (fun hb K1 hK1 => ?run) (fun hb => ?skip) (fun ρ hP hM => ?_)
 case skip => exact skA (want := true) (b := _) (by rw [hb]; rfl) hL.2 rfl
 case run =>
  simp only [List.take_succ_cons, List.take_zero]
  rw [hb] at hL
  try simp only [go_sem, simprocAttr, hL, hX]
  repeat' refine And.intro (by first | rfl | omega | (simp; done)) ?_
  refine hK1 _ ?_ ?_ ?_ <;> simp only [go_sem, simprocAttr, hL, hX] <;> exact rfl
 simp only [List.drop_succ_cons, List.drop_zero]
 try simp only [go_sem, simprocAttr, hL, hX] at hM
 replace hL := And.intro hP hM
 clear hP hM
 try simp only [go_sem, simprocAttr, hL, hX]
 repeat' refine And.intro (by first | rfl | omega | (simp; done)) ?_
 refine zL [1, 28] ?_
 clear hL
 intro ρ hL
 refine grp_andN (tc := 28) (tv := 31) (td := 32) (v := ?v4) 3 rfl [] hL.2 rfl (fun hb K1 hK1 => ?run) (fun hb => ?skip) (fun ρ hP hM => ?_)
 case skip => exact skA (want := true) (b := _) (by rw [hb]; rfl) hL.2 rfl
 case run =>
  simp only [List.take_succ_cons, List.take_zero]
  rw [hb] at hL
  try simp only [go_sem, simprocAttr, hL, hX]
  repeat' refine And.intro (by first | rfl | omega | (simp; done)) ?_
  refine zF (sat_spec_l1In _ _ _) ?_
  refine hK1 _ ?_ ?_ ?_ <;> simp only [go_sem, simprocAttr, hL, hX] <;> exact rfl
 simp only [List.drop_succ_cons, List.drop_zero]
 clear hM hL
 have hL := hP
 clear hP
 try simp only [go_sem, simprocAttr, hL, hX]
 repeat' refine And.intro (by first | rfl | omega | (simp; done)) ?_
 refine zE [2] ?_
 clear hK K hL
 refine zR ?_
 try simp only [go_sem, simprocAttr]
 all_goals (rw [sealer_eq] <;> rfl)
theorem sat_impl_seals (w : Word)  : Sat Tryz.prog 225 [.agg w.cells] [] (.bool (sealer w)) [] := by
 have hX := trivial
 refine sat_mk [.tmp 2] 0 33 Tryz.call225 Tryz.func225 Tryz.ntmps225 rfl rfl rfl rfl rfl ?_
 refine zI [0] ?_
 refine zS [1] ?_
 intro ρ hL
 refine zA ?_
 intro K hK
 refine zF (sat_impl_open _) ?_
 refine zL [1, 5] ?_
 clear hL
 intro ρ hL
 refine grp_andN (tc := 5) (tv := 10) (td := 11) (v := ?v1) 5 rfl [1] hL.2 rfl (fun hb K1 hK1 => ?run) (fun hb => ?skip) (fun ρ hP hM => ?_)
 case skip => exact skA (want := true) (b := _) (by rw [hb]; rfl) hL.2 rfl
 case run =>
  simp only [List.take_succ_cons, List.take_zero]
  rw [hb] at hL
  try simp only [go_sem, simprocAttr, hL, hX]
  repeat' refine And.intro (by first | rfl | omega | (simp; done)) ?_
  refine hK1 _ ?_ ?_ ?_ <;> simp only [go_sem, simprocAttr, hL, hX] <;> exact rfl
 simp only [List.drop_succ_cons, List.drop_zero]
 try simp only [go_sem, simprocAttr, hL, hX] at hM
 replace hL := And.intro hP hM
 clear hP hM
 try simp only [go_sem, simprocAttr, hL, hX]
 repeat' refine And.intro (by first | rfl | omega | (simp; done)) ?_
 refine zL [1, 12] ?_
 clear hL
 intro ρ hL
 refine grp_andN (tc := 12) (tv := 18) (td := 19) (v := ?v2) 6 rfl [1] hL.2 rfl (fun hb K1 hK1 => ?run) (fun hb => ?skip) (fun ρ hP hM => ?_)
 case skip => exact skA (want := true) (b := _) (by rw [hb]; rfl) hL.2 rfl
 case run =>
  simp only [List.take_succ_cons, List.take_zero]
  rw [hb] at hL
  try simp only [go_sem, simprocAttr, hL, hX]
  repeat' refine And.intro (by first | rfl | omega | (simp; done)) ?_
  refine hK1 _ ?_ ?_ ?_ <;> simp only [go_sem, simprocAttr, hL, hX] <;> exact rfl
 simp only [List.drop_succ_cons, List.drop_zero]
 try simp only [go_sem, simprocAttr, hL, hX] at hM
 replace hL := And.intro hP hM
 clear hP hM
 try simp only [go_sem, simprocAttr, hL, hX]
 repeat' refine And.intro (by first | rfl | omega | (simp; done)) ?_
 refine zL [1, 20] ?_
 clear hL
 intro ρ hL
 refine grp_andN (tc := 20) (tv := 26) (td := 27) (v := ?v3) 6 rfl [1] hL.2 rfl (fun hb K1 hK1 => ?run) (fun hb => ?skip) (fun ρ hP hM => ?_)
 case skip => exact skA (want := true) (b := _) (by rw [hb]; rfl) hL.2 rfl
 case run =>
  simp only [List.take_succ_cons, List.take_zero]
  rw [hb] at hL
  try simp only [go_sem, simprocAttr, hL, hX]
  repeat' refine And.intro (by first | rfl | omega | (simp; done)) ?_
  refine hK1 _ ?_ ?_ ?_ <;> simp only [go_sem, simprocAttr, hL, hX] <;> exact rfl
 simp only [List.drop_succ_cons, List.drop_zero]
 try simp only [go_sem, simprocAttr, hL, hX] at hM
 replace hL := And.intro hP hM
 clear hP hM
 try simp only [go_sem, simprocAttr, hL, hX]
 repeat' refine And.intro (by first | rfl | omega | (simp; done)) ?_
 refine zL [1, 28] ?_
 clear hL
 intro ρ hL
 refine grp_andN (tc := 28) (tv := 31) (td := 32) (v := ?v4) 3 rfl [] hL.2 rfl (fun hb K1 hK1 => ?run) (fun hb => ?skip) (fun ρ hP hM => ?_)
 case skip => exact skA (want := true) (b := _) (by rw [hb]; rfl) hL.2 rfl
 case run =>
  simp only [List.take_succ_cons, List.take_zero]
  rw [hb] at hL
  try simp only [go_sem, simprocAttr, hL, hX]
  repeat' refine And.intro (by first | rfl | omega | (simp; done)) ?_
  refine zF (sat_impl_in _ _ _) ?_
  refine hK1 _ ?_ ?_ ?_ <;> simp only [go_sem, simprocAttr, hL, hX] <;> exact rfl
 simp only [List.drop_succ_cons, List.drop_zero]
 clear hM hL
 have hL := hP
 clear hP
 try simp only [go_sem, simprocAttr, hL, hX]
 repeat' refine And.intro (by first | rfl | omega | (simp; done)) ?_
 refine zE [2] ?_
 clear hK K hL
 refine zR ?_
 try simp only [go_sem, simprocAttr]
 all_goals (rw [sealer_eq] <;> rfl)
theorem sat_spec_SealBy (w : Word) (by_ : Word)  : Sat Tryz.prog 195 [.agg w.cells, .agg by_.cells] [] (.agg (Word.cells (sealBy w by_))) [] := by
 have hX := trivial
 refine sat_mk [.cell 4 29] 0 20 Tryz.call195 Tryz.func195 Tryz.ntmps195 rfl rfl rfl rfl rfl ?_
 refine zI [0, 1] ?_
 refine zS [2, 3, 4] ?_
 intro ρ hL
 refine zA ?_
 intro K hK
 refine zF (sat_spec_l4Open _) ?_
 refine zL [2, 3, 4, 8] ?_
 clear hL
 intro ρ hL
 refine grp_orN (tc := 8) (tv := 11) (td := 12) (v := ?v1) 3 rfl [2, 3, 4] hL.2.2.2 rfl (fun hb K1 hK1 => ?run) (fun hb => ?skip) (fun ρ hP hM => ?_)
 case skip => exact skA (want := false) (b := _) (by rw [hb]; rfl) hL.2.2.2 rfl
 case run =>
  simp only [List.take_succ_cons, List.take_zero]
  rw [hb] at hL
  try simp only [go_sem, simprocAttr, hL, hX]
  repeat' refine And.intro (by first | rfl | omega | (simp; done)) ?_
  refine zF (sat_spec_l4Sealer _) ?_
  refine hK1 _ ?_ ?_ ?_ <;> simp only [go_sem, simprocAttr, hL, hX] <;> exact rfl
 simp only [List.drop_succ_cons, List.drop_zero]
 try simp only [go_sem, simprocAttr, hL, hX] at hM
 replace hL := And.intro hP hM
 clear hP hM
 try simp only [go_sem, simprocAttr, hL, hX]
 repeat' refine And.intro (by first | rfl | omega | (simp; done)) ?_
 refine zE [2, 3, 4, 12] ?_
 clear hK K hL
 refine zC ?_ ?_
 · intro c1
   refine zSF [4] (sat_spec_Bare _) ?_
   refine zR ?_
   try simp only [go_sem, simprocAttr]
   all_goals (rw [sealBy, if_neg (by rintro ⟨a, b⟩; rw [a, b] at c1; simp at c1)] <;> simp only [bare, plain, low, noKey])
 · intro c1
   intro ρ hL
   refine awl_skip ?_
   revert ρ hL
   refine zS [2, 4] ?_
   refine zS [4] ?_
   refine zR ?_
   try simp only [go_sem, simprocAttr]
   all_goals (rw [sealBy, if_pos c1] <;> rfl)
theorem sat_impl_SealBy (w : Word) (by_ : Word)  : Sat Tryz.prog 214 [.agg w.cells, .agg by_.cells] [] (.agg (Word.cells (sealBy w by_))) [] := by
 have hX := trivial
 refine sat_mk [.cell 4 29] 0 20 Tryz.call214 Tryz.func214 Tryz.ntmps214 rfl rfl rfl rfl rfl ?_
 refine zI [0, 1] ?_
 refine zS [2, 3, 4] ?_
 intro ρ hL
 refine zA ?_
 intro K hK
 refine zF (sat_impl_open _) ?_
 refine zL [2, 3, 4, 8] ?_
 clear hL
 intro ρ hL
 refine grp_orN (tc := 8) (tv := 11) (td := 12) (v := ?v1) 3 rfl [2, 3, 4] hL.2.2.2 rfl (fun hb K1 hK1 => ?run) (fun hb => ?skip) (fun ρ hP hM => ?_)
 case skip => exact skA (want := false) (b := _) (by rw [hb]; rfl) hL.2.2.2 rfl
 case run =>
  simp only [List.take_succ_cons, List.take_zero]
  rw [hb] at hL
  try simp only [go_sem, simprocAttr, hL, hX]
  repeat' refine And.intro (by first | rfl | omega | (simp; done)) ?_
  refine zF (sat_impl_seals _) ?_
  refine hK1 _ ?_ ?_ ?_ <;> simp only [go_sem, simprocAttr, hL, hX] <;> exact rfl
 simp only [List.drop_succ_cons, List.drop_zero]
 try simp only [go_sem, simprocAttr, hL, hX] at hM
 replace hL := And.intro hP hM
 clear hP hM
 try simp only [go_sem, simprocAttr, hL, hX]
 repeat' refine And.intro (by first | rfl | omega | (simp; done)) ?_
 refine zE [2, 3, 4, 12] ?_
 clear hK K hL
 refine zC ?_ ?_
 · intro c1
   refine zSF [4] (sat_impl_Bare _) ?_
   refine zR ?_
   try simp only [go_sem, simprocAttr]
   all_goals (rw [sealBy, if_neg (by rintro ⟨a, b⟩; rw [a, b] at c1; simp at c1)] <;> simp only [bare, plain, low, noKey])
 · intro c1
   intro ρ hL
   refine awl_skip ?_
   revert ρ hL
   refine zS [2, 4] ?_
   refine zS [4] ?_
   refine zR ?_
   try simp only [go_sem, simprocAttr]
   all_goals (rw [sealBy, if_pos c1] <;> rfl)
theorem sat_spec_OpenBy (w : Word) (by_ : Word)  : Sat Tryz.prog 196 [.agg w.cells, .agg by_.cells] [] (.agg (Word.cells (openBy w by_))) [] := by
 have hX := trivial
 refine sat_mk [.cell 4 29] 0 31 Tryz.call196 Tryz.func196 Tryz.ntmps196 rfl rfl rfl rfl rfl ?_
 refine zI [0, 1] ?_
 refine zS [2, 3, 4] ?_
 intro ρ hL
 refine zA ?_
 intro K hK
 refine zF (sat_spec_WordOk _) ?_
 refine zL [2, 3, 4, 8] ?_
 clear hL
 intro ρ hL
 refine grp_orN (tc := 8) (tv := 11) (td := 12) (v := ?v1) 3 rfl [2, 3, 4] hL.2.2.2 rfl (fun hb K1 hK1 => ?run) (fun hb => ?skip) (fun ρ hP hM => ?_)
 case skip => exact skA (want := false) (b := _) (by rw [hb]; rfl) hL.2.2.2 rfl
 case run =>
  simp only [List.take_succ_cons, List.take_zero]
  rw [hb] at hL
  try simp only [go_sem, simprocAttr, hL, hX]
  repeat' refine And.intro (by first | rfl | omega | (simp; done)) ?_
  refine hK1 _ ?_ ?_ ?_ <;> simp only [go_sem, simprocAttr, hL, hX] <;> exact rfl
 simp only [List.drop_succ_cons, List.drop_zero]
 try simp only [go_sem, simprocAttr, hL, hX] at hM
 replace hL := And.intro hP hM
 clear hP hM
 try simp only [go_sem, simprocAttr, hL, hX]
 repeat' refine And.intro (by first | rfl | omega | (simp; done)) ?_
 refine zL [2, 3, 4, 13] ?_
 clear hL
 intro ρ hL
 refine grp_orN (tc := 13) (tv := 16) (td := 17) (v := ?v2) 3 rfl [2, 3, 4] hL.2.2.2 rfl (fun hb K1 hK1 => ?run) (fun hb => ?skip) (fun ρ hP hM => ?_)
 case skip => exact skA (want := false) (b := _) (by rw [hb]; rfl) hL.2.2.2 rfl
 case run =>
  simp only [List.take_succ_cons, List.take_zero]
  rw [hb] at hL
  try simp only [go_sem, simprocAttr, hL, hX]
  repeat' refine And.intro (by first | rfl | omega | (simp; done)) ?_
  refine zF (sat_spec_l4Sealer _) ?_
  refine hK1 _ ?_ ?_ ?_ <;> simp only [go_sem, simprocAttr, hL, hX] <;> exact rfl
 simp only [List.drop_succ_cons, List.drop_zero]
 try simp only [go_sem, simprocAttr, hL, hX] at hM
 replace hL := And.intro hP hM
 clear hP hM
 try simp only [go_sem, simprocAttr, hL, hX]
 repeat' refine And.intro (by first | rfl | omega | (simp; done)) ?_
 refine zL [2, 3, 4, 18] ?_
 clear hL
 intro ρ hL
 refine grp_orN (tc := 18) (tv := 24) (td := 25) (v := ?v3) 6 rfl [2, 4] hL.2.2.2 rfl (fun hb K1 hK1 => ?run) (fun hb => ?skip) (fun ρ hP hM => ?_)
 case skip => exact skA (want := false) (b := _) (by rw [hb]; rfl) hL.2.2.2 rfl
 case run =>
  simp only [List.take_succ_cons, List.take_zero]
  rw [hb] at hL
  try simp only [go_sem, simprocAttr, hL, hX]
  repeat' refine And.intro (by first | rfl | omega | (simp; done)) ?_
  refine hK1 _ ?_ ?_ ?_ <;> simp only [go_sem, simprocAttr, hL, hX] <;> exact rfl
 simp only [List.drop_succ_cons, List.drop_zero]
 try simp only [go_sem, simprocAttr, hL, hX] at hM
 replace hL := And.intro hP hM
 clear hP hM
 try simp only [go_sem, simprocAttr, hL, hX]
 repeat' refine And.intro (by first | rfl | omega | (simp; done)) ?_
 refine zE [2, 4, 25] ?_
 clear hK K hL
 refine zC ?_ ?_
 · intro c1
   refine zSF [4] (sat_spec_Bare _) ?_
   refine zR ?_
   try simp only [go_sem, simprocAttr]
   all_goals (rw [openBy, if_neg (by rintro ⟨a, b, d, e⟩; rw [a, b, d, e] at c1; simp at c1)] <;> simp only [bare, plain, low, noKey])
 · intro c1
   intro ρ hL
   refine awl_skip ?_
   revert ρ hL
   refine zS [2, 4] ?_
   refine zS [4] ?_
   refine zR ?_
   try simp only [go_sem, simprocAttr]
   all_goals (rw [openBy, if_pos ⟨c1.1.1.1, c1.1.1.2, c1.1.2, by omega⟩] <;> rfl)
theorem sat_impl_OpenBy (w : Word) (by_ : Word)  : Sat Tryz.prog 215 [.agg w.cells, .agg by_.cells] [] (.agg (Word.cells (openBy w by_))) [] := by
 have hX := trivial
 refine sat_mk [.cell 4 29] 0 31 Tryz.call215 Tryz.func215 Tryz.ntmps215 rfl rfl rfl rfl rfl ?_
 refine zI [0, 1] ?_
 refine zS [2, 3, 4] ?_
 intro ρ hL
 refine zA ?_
 intro K hK
 refine zF (sat_impl_WordOk _) ?_
 refine zL [2, 3, 4, 8] ?_
 clear hL
 intro ρ hL
 refine grp_orN (tc := 8) (tv := 11) (td := 12) (v := ?v1) 3 rfl [2, 3, 4] hL.2.2.2 rfl (fun hb K1 hK1 => ?run) (fun hb => ?skip) (fun ρ hP hM => ?_)
 case skip => exact skA (want := false) (b := _) (by rw [hb]; rfl) hL.2.2.2 rfl
 case run =>
  simp only [List.take_succ_cons, List.take_zero]
  rw [hb] at hL
  try simp only [go_sem, simprocAttr, hL, hX]
  repeat' refine And.intro (by first | rfl | omega | (simp; done)) ?_
  refine hK1 _ ?_ ?_ ?_ <;> simp only [go_sem, simprocAttr, hL, hX] <;> exact rfl
 simp only [List.drop_succ_cons, List.drop_zero]
 try simp only [go_sem, simprocAttr, hL, hX] at hM
 replace hL := And.intro hP hM
 clear hP hM
 try simp only [go_sem, simprocAttr, hL, hX]
 repeat' refine And.intro (by first | rfl | omega | (simp; done)) ?_
 refine zL [2, 3, 4, 13] ?_
 clear hL
 intro ρ hL
 refine grp_orN (tc := 13) (tv := 16) (td := 17) (v := ?v2) 3 rfl [2, 3, 4] hL.2.2.2 rfl (fun hb K1 hK1 => ?run) (fun hb => ?skip) (fun ρ hP hM => ?_)
 case skip => exact skA (want := false) (b := _) (by rw [hb]; rfl) hL.2.2.2 rfl
 case run =>
  simp only [List.take_succ_cons, List.take_zero]
  rw [hb] at hL
  try simp only [go_sem, simprocAttr, hL, hX]
  repeat' refine And.intro (by first | rfl | omega | (simp; done)) ?_
  refine zF (sat_impl_seals _) ?_
  refine hK1 _ ?_ ?_ ?_ <;> simp only [go_sem, simprocAttr, hL, hX] <;> exact rfl
 simp only [List.drop_succ_cons, List.drop_zero]
 try simp only [go_sem, simprocAttr, hL, hX] at hM
 replace hL := And.intro hP hM
 clear hP hM
 try simp only [go_sem, simprocAttr, hL, hX]
 repeat' refine And.intro (by first | rfl | omega | (simp; done)) ?_
 refine zL [2, 3, 4, 18] ?_
 clear hL
 intro ρ hL
 refine grp_orN (tc := 18) (tv := 24) (td := 25) (v := ?v3) 6 rfl [2, 4] hL.2.2.2 rfl (fun hb K1 hK1 => ?run) (fun hb => ?skip) (fun ρ hP hM => ?_)
 case skip => exact skA (want := false) (b := _) (by rw [hb]; rfl) hL.2.2.2 rfl
 case run =>
  simp only [List.take_succ_cons, List.take_zero]
  rw [hb] at hL
  try simp only [go_sem, simprocAttr, hL, hX]
  repeat' refine And.intro (by first | rfl | omega | (simp; done)) ?_
  refine hK1 _ ?_ ?_ ?_ <;> simp only [go_sem, simprocAttr, hL, hX] <;> exact rfl
 simp only [List.drop_succ_cons, List.drop_zero]
 try simp only [go_sem, simprocAttr, hL, hX] at hM
 replace hL := And.intro hP hM
 clear hP hM
 try simp only [go_sem, simprocAttr, hL, hX]
 repeat' refine And.intro (by first | rfl | omega | (simp; done)) ?_
 refine zE [2, 4, 25] ?_
 clear hK K hL
 refine zC ?_ ?_
 · intro c1
   refine zSF [4] (sat_impl_Bare _) ?_
   refine zR ?_
   try simp only [go_sem, simprocAttr]
   all_goals (rw [openBy, if_neg (by rintro ⟨a, b, d, e⟩; rw [a, b, d, e] at c1; simp at c1)] <;> simp only [bare, plain, low, noKey])
 · intro c1
   intro ρ hL
   refine awl_skip ?_
   revert ρ hL
   refine zS [2, 4] ?_
   refine zS [4] ?_
   refine zR ?_
   try simp only [go_sem, simprocAttr]
   all_goals (rw [openBy, if_pos ⟨c1.1.1.1, c1.1.1.2, c1.1.2, by omega⟩] <;> rfl)
theorem sat_spec_l9Value (x : Ins) (a : Word) (b : Word) (g : Word)  : Sat Tryz.prog 149 [.agg x.cells, .agg a.cells, .agg b.cells, .agg g.cells] [] (.agg (Word.cells (valueOf x a b g))) [] := by
 have hX := trivial
 refine sat_mk [.cell 8 29] 0 68 Tryz.call149 Tryz.func149 Tryz.ntmps149 rfl rfl rfl rfl rfl ?_
 refine zI [0, 1, 2, 3] ?_
 refine zS [4, 5, 6, 7, 8] ?_
 refine zS [4, 5, 6, 7, 8, 10] ?_
 intro ρ hL
 refine awl_block fun R1 hw1 hR1 => ?_
 revert ρ hL
 refine zS [4, 5, 6, 7, 8, 10, 11] ?_
 refine zC ?_ ?_
 · intro c1
   refine zSF [8] (sat_spec_Plain _) ?_
   refine zR ?_
   try simp only [go_sem, simprocAttr]
   all_goals try clear hR1
   all_goals (rw [valueOf, if_pos c1] <;> rfl)
 · intro c1
   refine zS [4, 5, 6, 7, 8, 10, 16] ?_
   refine zC ?_ ?_
   · intro c2
     refine zSF [8] (sat_spec_Plain _) ?_
     refine zR ?_
     try simp only [go_sem, simprocAttr]
     all_goals try clear hR1
     all_goals (rw [valueOf, if_neg c1, if_pos c2] <;> rfl)
   · intro c2
     refine zS [4, 5, 6, 7, 8, 10, 24] ?_
     refine zC ?_ ?_
     · intro c3
       refine zS [8] ?_
       refine zR ?_
       try simp only [go_sem, simprocAttr]
       all_goals try clear hR1
       all_goals (rw [valueOf, if_neg c1, if_neg c2, if_pos c3] <;> rfl)
     · intro c3
       refine zS [4, 5, 6, 7, 8, 10, 27] ?_
       refine zC ?_ ?_
       · intro c4
         refine zSF [8] (sat_spec_Weaken _ _) ?_
         refine zR ?_
         try simp only [go_sem, simprocAttr]
         all_goals try clear hR1
         all_goals (rw [valueOf, if_neg c1, if_neg c2, if_neg c3, if_pos c4] <;> rfl)
       · intro c4
         refine zS [4, 5, 6, 7, 8, 10, 33] ?_
         refine zC ?_ ?_
         · intro c5
           refine zSF [8] (sat_spec_Narrow _ _) ?_
           refine zR ?_
           try simp only [go_sem, simprocAttr]
           all_goals try clear hR1
           all_goals (rw [valueOf, if_neg c1, if_neg c2, if_neg c3, if_neg c4, if_pos c5] <;> rfl)
         · intro c5
           refine zS [4, 5, 6, 7, 8, 10, 39] ?_
           refine zC ?_ ?_
           · intro c6
             refine zSF [8] (sat_spec_Point _ _) ?_
             refine zR ?_
             try simp only [go_sem, simprocAttr]
             all_goals try clear hR1
             all_goals (rw [valueOf, if_neg c1, if_neg c2, if_neg c3, if_neg c4, if_neg c5, if_pos c6] <;> rfl)
           · intro c6
             refine zS [5, 6, 7, 8, 10, 51] ?_
             refine zC ?_ ?_
             · intro c7
               refine zSF [8] (sat_spec_SealBy _ _) ?_
               refine zR ?_
               try simp only [go_sem, simprocAttr]
               all_goals try clear hR1
               all_goals (rw [valueOf, if_neg c1, if_neg c2, if_neg c3, if_neg c4, if_neg c5, if_neg c6, if_pos c7] <;> rfl)
             · intro c7
               refine zS [5, 6, 7, 8, 10, 56] ?_
               refine zC ?_ ?_
               · intro c8
                 refine zSF [8] (sat_spec_OpenBy _ _) ?_
                 refine zR ?_
                 try simp only [go_sem, simprocAttr]
                 all_goals try clear hR1
                 all_goals (rw [valueOf, if_neg c1, if_neg c2, if_neg c3, if_neg c4, if_neg c5, if_neg c6, if_neg c7, if_pos c8] <;> rfl)
               · intro c8
                 refine zS [5, 7, 8, 61] ?_
                 refine zC ?_ ?_
                 · intro c9
                   refine zS [8] ?_
                   refine zR ?_
                   try simp only [go_sem, simprocAttr]
                   all_goals try clear hR1
                   all_goals (rw [valueOf, if_neg c1, if_neg c2, if_neg c3, if_neg c4, if_neg c5, if_neg c6, if_neg c7, if_neg c8, if_pos c9] <;> rfl)
                 · intro c9
                   intro ρ hL
                   refine awl_skip ?_
                   refine awl_nil ?_
                   refine blk_normal (hR1 _ _ (.mk ?_))
                   revert ρ hL
                   refine zS [8, 65] ?_
                   refine zC ?_ ?_
                   · intro c10
                     refine zSF [8] (sat_spec_Plain _) ?_
                     refine zR ?_
                     try simp only [go_sem, simprocAttr]
                     all_goals try clear hR1
                     all_goals (rw [valueOf, if_neg c1, if_neg c2, if_neg c3, if_neg c4, if_neg c5, if_neg c6, if_neg c7, if_neg c8, if_neg c9, isW, if_pos c10] <;> rfl)
                   · intro c10
                     intro ρ hL
                     refine awl_skip ?_
                     revert ρ hL
                     refine zSF [8] (sat_spec_Plain _) ?_
                     refine zR ?_
                     try simp only [go_sem, simprocAttr]
                     all_goals try clear hR1
                     all_goals (rw [valueOf, if_neg c1, if_neg c2, if_neg c3, if_neg c4, if_neg c5, if_neg c6, if_neg c7, if_neg c8, if_neg c9, isW, if_neg (by rw [c10]; exact Bool.noConfusion)] <;> rfl)
theorem sat_impl_made (x : Ins) (a : Word) (b : Word) (g : Word) (ho : 1 ≤ x.op ∧ x.op ≤ 10) : Sat Tryz.prog 189 [.agg x.cells, .agg a.cells, .agg b.cells, .agg g.cells] [] (.agg (Word.cells (valueOf x a b g))) [] := by
 have hX := trivial
 refine sat_mk [.cell 8 29] 0 68 Tryz.call189 Tryz.func189 Tryz.ntmps189 rfl rfl rfl rfl rfl ?_
 refine zI [0, 1, 2, 3] ?_
 refine zS [4, 5, 6, 7, 8] ?_
 refine zS [4, 5, 6, 7, 8, 10] ?_
 intro ρ hL
 refine awl_block fun R1 hw1 hR1 => ?_
 revert ρ hL
 refine zS [4, 5, 6, 7, 8, 10, 11] ?_
 refine zC ?_ ?_
 · intro c1
   refine zSF [8] (sat_impl_Plain _) ?_
   refine zR ?_
   try simp only [go_sem, simprocAttr]
   all_goals try clear hR1
   all_goals (rw [valueOf, if_pos c1] <;> rfl)
 · intro c1
   refine zS [4, 5, 6, 7, 8, 10, 16] ?_
   refine zC ?_ ?_
   · intro c2
     refine zSF [8] (sat_impl_Plain _) ?_
     refine zR ?_
     try simp only [go_sem, simprocAttr]
     all_goals try clear hR1
     all_goals (rw [valueOf, if_neg c1, if_pos c2] <;> rfl)
   · intro c2
     refine zS [4, 5, 6, 7, 8, 10, 24] ?_
     refine zC ?_ ?_
     · intro c3
       refine zS [8] ?_
       refine zR ?_
       try simp only [go_sem, simprocAttr]
       all_goals try clear hR1
       all_goals (rw [valueOf, if_neg c1, if_neg c2, if_pos c3] <;> rfl)
     · intro c3
       refine zS [4, 5, 6, 7, 8, 10, 27] ?_
       refine zC ?_ ?_
       · intro c4
         refine zSF [8] (sat_impl_Weaken _ _) ?_
         refine zR ?_
         try simp only [go_sem, simprocAttr]
         all_goals try clear hR1
         all_goals (rw [valueOf, if_neg c1, if_neg c2, if_neg c3, if_pos c4] <;> rfl)
       · intro c4
         refine zS [4, 5, 6, 7, 8, 10, 33] ?_
         refine zC ?_ ?_
         · intro c5
           refine zSF [8] (sat_impl_Narrow _ _) ?_
           refine zR ?_
           try simp only [go_sem, simprocAttr]
           all_goals try clear hR1
           all_goals (rw [valueOf, if_neg c1, if_neg c2, if_neg c3, if_neg c4, if_pos c5] <;> rfl)
         · intro c5
           refine zS [4, 5, 6, 7, 8, 10, 39] ?_
           refine zC ?_ ?_
           · intro c6
             refine zSF [8] (sat_impl_Point _ _) ?_
             refine zR ?_
             try simp only [go_sem, simprocAttr]
             all_goals try clear hR1
             all_goals (rw [valueOf, if_neg c1, if_neg c2, if_neg c3, if_neg c4, if_neg c5, if_pos c6] <;> rfl)
           · intro c6
             refine zS [5, 6, 7, 8, 10, 51] ?_
             refine zC ?_ ?_
             · intro c7
               refine zSF [8] (sat_impl_SealBy _ _) ?_
               refine zR ?_
               try simp only [go_sem, simprocAttr]
               all_goals try clear hR1
               all_goals (rw [valueOf, if_neg c1, if_neg c2, if_neg c3, if_neg c4, if_neg c5, if_neg c6, if_pos c7] <;> rfl)
             · intro c7
               refine zS [5, 6, 7, 8, 10, 56] ?_
               refine zC ?_ ?_
               · intro c8
                 refine zSF [8] (sat_impl_OpenBy _ _) ?_
                 refine zR ?_
                 try simp only [go_sem, simprocAttr]
                 all_goals try clear hR1
                 all_goals (rw [valueOf, if_neg c1, if_neg c2, if_neg c3, if_neg c4, if_neg c5, if_neg c6, if_neg c7, if_pos c8] <;> rfl)
               · intro c8
                 refine zS [5, 7, 8, 61] ?_
                 refine zC ?_ ?_
                 · intro c9
                   refine zS [8, 64] ?_
                   refine zC ?_ ?_
                   · intro c10
                     refine zSF [8] (sat_impl_Plain _) ?_
                     refine zR ?_
                     try simp only [go_sem, simprocAttr]
                     all_goals try clear hR1
                     all_goals (rw [valueOf, if_neg c1, if_neg c2, if_neg c3, if_neg c4, if_neg c5, if_neg c6, if_neg c7, if_neg c8, if_neg (by omega), isW, if_pos c10] <;> rfl)
                   · intro c10
                     intro ρ hL
                     refine awl_skip ?_
                     revert ρ hL
                     refine zSF [8] (sat_impl_Plain _) ?_
                     refine zR ?_
                     try simp only [go_sem, simprocAttr]
                     all_goals try clear hR1
                     all_goals (rw [valueOf, if_neg c1, if_neg c2, if_neg c3, if_neg c4, if_neg c5, if_neg c6, if_neg c7, if_neg c8, if_neg (by omega), isW, if_neg (by rw [c10]; exact Bool.noConfusion)] <;> rfl)
                 · intro c9
                   intro ρ hL
                   refine awl_skip ?_
                   refine awl_nil ?_
                   refine blk_normal (hR1 _ _ (.mk ?_))
                   revert ρ hL
                   refine zS [8] ?_
                   refine zR ?_
                   try simp only [go_sem, simprocAttr]
                   all_goals try clear hR1
                   all_goals (rw [valueOf, if_neg c1, if_neg c2, if_neg c3, if_neg c4, if_neg c5, if_neg c6, if_neg c7, if_neg c8, if_pos (by omega)] <;> rfl)
end Go.Proofs.YteojcehneipgdaaGreat.AM
