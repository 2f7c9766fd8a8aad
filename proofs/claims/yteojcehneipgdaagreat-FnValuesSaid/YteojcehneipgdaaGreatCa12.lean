/- Entries in order; cores in order. No conditions but those each theorem bears. -/
import Derived.Test.YteojcehneipgdaaGreatFa
import Derived.Test.YteojcehneipgdaaGreatM5
import Derived.Test.YteojcehneipgdaaGreatCa10
import Derived.Test.YteojcehneipgdaaGreatCa11
set_option linter.unusedSimpArgs false
set_option linter.unusedVariables false
namespace Go.Proofs.YteojcehneipgdaaGreat.AM
open Go
set_option maxHeartbeats 8000000
set_option maxRecDepth 100000

theorem sat_impl_entryOk (x : Ent)  : Sat Tryz.prog 105 [.agg x.cells] [] (.bool (entOk x)) [] := by
 have hX := trivial
 refine sat_mk [.tmp 2] 0 58 Tryz.call105 Tryz.func105 Tryz.ntmps105 rfl rfl rfl rfl rfl ?_
 refine zI [0] ?_
 refine zS [1] ?_
 intro ρ hL
 refine zA ?_
 intro K hK
 refine zF (sat_impl_WordOk _) ?_
 refine zL [1, 6] ?_
 clear hL
 intro ρ hL
 refine grp_andN (tc := 6) (tv := 9) (td := 10) (v := ?v1) 3 rfl [1] hL.2 rfl (fun hb K1 hK1 => ?run) (fun hb => ?skip) (fun ρ hP hM => ?_)
 case skip => exact skA (want := true) (b := _) (by rw [hb]; rfl) hL.2 rfl
 case run =>
  simp only [List.take_succ_cons, List.take_zero]
  rw [hb] at hL
  try simp only [go_sem, simprocAttr, hL, hX]
  repeat' refine And.intro (by first | rfl | omega | (simp; done)) ?_
  refine zF (sat_impl_WordOk _) ?_
  refine hK1 _ ?_ ?_ ?_ <;> simp only [go_sem, simprocAttr, hL, hX] <;> exact rfl
 simp only [List.drop_succ_cons, List.drop_zero]
 try simp only [go_sem, simprocAttr, hL, hX] at hM
 replace hL := And.intro hP hM
 clear hP hM
 try simp only [go_sem, simprocAttr, hL, hX]
 repeat' refine And.intro (by first | rfl | omega | (simp; done)) ?_
 refine zL [1, 11] ?_
 clear hL
 intro ρ hL
 refine grp_andN (tc := 11) (tv := 15) (td := 16) (v := ?v2) 4 rfl [1] hL.2 rfl (fun hb K1 hK1 => ?run) (fun hb => ?skip) (fun ρ hP hM => ?_)
 case skip => exact skA (want := true) (b := _) (by rw [hb]; rfl) hL.2 rfl
 case run =>
  simp only [List.take_succ_cons, List.take_zero]
  rw [hb] at hL
  try simp only [go_sem, simprocAttr, hL, hX]
  repeat' refine And.intro (by first | rfl | omega | (simp; done)) ?_
  refine zF (sat_impl_WordOk _) ?_
  refine hK1 _ ?_ ?_ ?_ <;> simp only [go_sem, simprocAttr, hL, hX] <;> exact rfl
 simp only [List.drop_succ_cons, List.drop_zero]
 try simp only [go_sem, simprocAttr, hL, hX] at hM
 replace hL := And.intro hP hM
 clear hP hM
 try simp only [go_sem, simprocAttr, hL, hX]
 repeat' refine And.intro (by first | rfl | omega | (simp; done)) ?_
 refine zL [1, 17] ?_
 clear hL
 intro ρ hL
 refine grp_andN (tc := 17) (tv := 21) (td := 22) (v := ?v3) 4 rfl [1] hL.2 rfl (fun hb K1 hK1 => ?run) (fun hb => ?skip) (fun ρ hP hM => ?_)
 case skip => exact skA (want := true) (b := _) (by rw [hb]; rfl) hL.2 rfl
 case run =>
  simp only [List.take_succ_cons, List.take_zero]
  rw [hb] at hL
  try simp only [go_sem, simprocAttr, hL, hX]
  repeat' refine And.intro (by first | rfl | omega | (simp; done)) ?_
  refine zF (sat_impl_WordOk _) ?_
  refine hK1 _ ?_ ?_ ?_ <;> simp only [go_sem, simprocAttr, hL, hX] <;> exact rfl
 simp only [List.drop_succ_cons, List.drop_zero]
 try simp only [go_sem, simprocAttr, hL, hX] at hM
 replace hL := And.intro hP hM
 clear hP hM
 try simp only [go_sem, simprocAttr, hL, hX]
 repeat' refine And.intro (by first | rfl | omega | (simp; done)) ?_
 refine zL [1, 23] ?_
 clear hL
 intro ρ hL
 refine grp_andN (tc := 23) (tv := 27) (td := 28) (v := ?v4) 4 rfl [1] hL.2 rfl (fun hb K1 hK1 => ?run) (fun hb => ?skip) (fun ρ hP hM => ?_)
 case skip => exact skA (want := true) (b := _) (by rw [hb]; rfl) hL.2 rfl
 case run =>
  simp only [List.take_succ_cons, List.take_zero]
  rw [hb] at hL
  try simp only [go_sem, simprocAttr, hL, hX]
  repeat' refine And.intro (by first | rfl | omega | (simp; done)) ?_
  refine zF (sat_impl_WordOk _) ?_
  refine hK1 _ ?_ ?_ ?_ <;> simp only [go_sem, simprocAttr, hL, hX] <;> exact rfl
 simp only [List.drop_succ_cons, List.drop_zero]
 try simp only [go_sem, simprocAttr, hL, hX] at hM
 replace hL := And.intro hP hM
 clear hP hM
 try simp only [go_sem, simprocAttr, hL, hX]
 repeat' refine And.intro (by first | rfl | omega | (simp; done)) ?_
 refine zL [1, 29] ?_
 clear hL
 intro ρ hL
 refine grp_andN (tc := 29) (tv := 38) (td := 39) (v := ?v5) 9 rfl [1] hL.2 rfl (fun hb K1 hK1 => ?run) (fun hb => ?skip) (fun ρ hP hM => ?_)
 case skip => exact skA (want := true) (b := _) (by rw [hb]; rfl) hL.2 rfl
 case run =>
  simp only [List.take_succ_cons, List.take_zero]
  rw [hb] at hL
  have g6 := hL
  have hK1_6 := hK1
  try simp only [go_sem, simprocAttr, hL, hX]
  repeat' refine And.intro (by first | rfl | omega | (simp; done)) ?_
  refine zF (sat_impl_InsOk _) ?_
  refine zL [1, 29, 33] ?_
  clear hL
  intro ρ hL
  refine grp_orGN (tc := 33) (tv := 37) (td := 38) (v := ?v7) 4 29 true rfl hL.2.1 [1, 29] rfl hL.2.2 rfl (fun hb K1 hK1 => ?run) (fun hb => ?skip) (fun ρ hP hM => ?_)
  case skip => exact skA (want := false) (b := _) (by rw [hb]; rfl) hL.2.2 rfl
  case run =>
   simp only [List.take_succ_cons, List.take_zero]
   rw [hb] at hL
   try simp only [go_sem, simprocAttr, hL, hX]
   repeat' refine And.intro (by first | rfl | omega | (simp; done)) ?_
   refine hK1 _ ?_ ?_ ?_ <;> simp only [go_sem, simprocAttr, hL, hX] <;> exact rfl
  simp only [List.drop_succ_cons, List.drop_zero]
  try simp only [go_sem, simprocAttr, hL, hX] at hM
  replace hL := And.intro hP hM
  clear hP hM
  try simp only [go_sem, simprocAttr, hL, hX]
  repeat' refine And.intro (by first | rfl | omega | (simp; done)) ?_
  refine hK1_6 _ ?_ ?_ ?_ <;> simp only [go_sem, simprocAttr, hL, hX, g6] <;> exact rfl
 simp only [List.drop_succ_cons, List.drop_zero]
 try simp only [go_sem, simprocAttr, hL, hX] at hM
 replace hL := And.intro hP hM
 clear hP hM
 try simp only [go_sem, simprocAttr, hL, hX]
 repeat' refine And.intro (by first | rfl | omega | (simp; done)) ?_
 refine zL [1, 40] ?_
 clear hL
 intro ρ hL
 refine grp_andN (tc := 40) (tv := 44) (td := 45) (v := ?v8) 4 rfl [1] hL.2 rfl (fun hb K1 hK1 => ?run) (fun hb => ?skip) (fun ρ hP hM => ?_)
 case skip => exact skA (want := true) (b := _) (by rw [hb]; rfl) hL.2 rfl
 case run =>
  simp only [List.take_succ_cons, List.take_zero]
  rw [hb] at hL
  try simp only [go_sem, simprocAttr, hL, hX]
  repeat' refine And.intro (by first | rfl | omega | (simp; done)) ?_
  refine zF (sat_impl_in _ _ _) ?_
  refine hK1 _ ?_ ?_ ?_ <;> simp only [go_sem, simprocAttr, hL, hX] <;> exact rfl
 simp only [List.drop_succ_cons, List.drop_zero]
 try simp only [go_sem, simprocAttr, hL, hX] at hM
 replace hL := And.intro hP hM
 clear hP hM
 try simp only [go_sem, simprocAttr, hL, hX]
 repeat' refine And.intro (by first | rfl | omega | (simp; done)) ?_
 refine zL [1, 46] ?_
 clear hL
 intro ρ hL
 refine grp_andN (tc := 46) (tv := 50) (td := 51) (v := ?v9) 4 rfl [1] hL.2 rfl (fun hb K1 hK1 => ?run) (fun hb => ?skip) (fun ρ hP hM => ?_)
 case skip => exact skA (want := true) (b := _) (by rw [hb]; rfl) hL.2 rfl
 case run =>
  simp only [List.take_succ_cons, List.take_zero]
  rw [hb] at hL
  try simp only [go_sem, simprocAttr, hL, hX]
  repeat' refine And.intro (by first | rfl | omega | (simp; done)) ?_
  refine zF (sat_impl_in _ _ _) ?_
  refine hK1 _ ?_ ?_ ?_ <;> simp only [go_sem, simprocAttr, hL, hX] <;> exact rfl
 simp only [List.drop_succ_cons, List.drop_zero]
 try simp only [go_sem, simprocAttr, hL, hX] at hM
 replace hL := And.intro hP hM
 clear hP hM
 try simp only [go_sem, simprocAttr, hL, hX]
 repeat' refine And.intro (by first | rfl | omega | (simp; done)) ?_
 refine zL [1, 52] ?_
 clear hL
 intro ρ hL
 refine grp_andN (tc := 52) (tv := 56) (td := 57) (v := ?v10) 4 rfl [] hL.2 rfl (fun hb K1 hK1 => ?run) (fun hb => ?skip) (fun ρ hP hM => ?_)
 case skip => exact skA (want := true) (b := _) (by rw [hb]; rfl) hL.2 rfl
 case run =>
  simp only [List.take_succ_cons, List.take_zero]
  rw [hb] at hL
  try simp only [go_sem, simprocAttr, hL, hX]
  repeat' refine And.intro (by first | rfl | omega | (simp; done)) ?_
  refine hK1 _ ?_ ?_ ?_ <;> simp only [go_sem, simprocAttr, hL, hX] <;> exact rfl
 simp only [List.drop_succ_cons, List.drop_zero]
 clear hM hL
 have hL := hP
 clear hP
 try simp only [go_sem, simprocAttr, hL, hX]
 repeat' refine And.intro (by first | rfl | omega | (simp; done)) ?_
 refine zE [2] ?_
 clear hK K hL
 refine zR ?_
 try simp only [go_sem, simprocAttr]
 all_goals (rw [AV.bool.injEq]; simp only [entOk, ins_zero])
theorem sat_impl_CoreOk_1 (x : Ent)  : Sat Tryz.prog 104 [.agg x.cells] [] (.bool (!entOk x)) [] := by
 have hX := trivial
 refine sat_mk [.tmp 2] 0 6 Tryz.call104 Tryz.func104 Tryz.ntmps104 rfl rfl rfl rfl rfl ?_
 refine zI [0] ?_
 refine zS [1] ?_
 refine zSF [2] (sat_impl_entryOk x) ?_
 refine zR ?_
 try simp only [go_sem, simprocAttr]
 all_goals (first | done | rfl | (simp; done) | (simp [inR]; done) | (simp_all [inR]; done) | (simp [inR]; grind))
theorem sat_spec_l12Entry (x : Ent)  : Sat Tryz.prog 101 [.agg x.cells] [] (.bool (entOk x)) [] := by
 have hX := trivial
 refine sat_mk [.tmp 2] 0 61 Tryz.call101 Tryz.func101 Tryz.ntmps101 rfl rfl rfl rfl rfl ?_
 refine zI [0] ?_
 refine zS [1] ?_
 intro ρ hL
 refine zA ?_
 intro K hK
 refine zF (sat_spec_WordOk _) ?_
 refine zL [1, 7] ?_
 clear hL
 intro ρ hL
 refine grp_orN (tc := 7) (tv := 11) (td := 12) (v := ?v1) 4 rfl [1] hL.2 rfl (fun hb K1 hK1 => ?run) (fun hb => ?skip) (fun ρ hP hM => ?_)
 case skip => exact skA (want := false) (b := _) (by rw [hb]; rfl) hL.2 rfl
 case run =>
  simp only [List.take_succ_cons, List.take_zero]
  rw [hb] at hL
  try simp only [go_sem, simprocAttr, hL, hX]
  repeat' refine And.intro (by first | rfl | omega | (simp; done)) ?_
  refine zF (sat_spec_WordOk _) ?_
  refine hK1 _ ?_ ?_ ?_ <;> simp only [go_sem, simprocAttr, hL, hX] <;> exact rfl
 simp only [List.drop_succ_cons, List.drop_zero]
 try simp only [go_sem, simprocAttr, hL, hX] at hM
 replace hL := And.intro hP hM
 clear hP hM
 try simp only [go_sem, simprocAttr, hL, hX]
 repeat' refine And.intro (by first | rfl | omega | (simp; done)) ?_
 refine zL [1, 13] ?_
 clear hL
 intro ρ hL
 refine grp_orN (tc := 13) (tv := 18) (td := 19) (v := ?v2) 5 rfl [1] hL.2 rfl (fun hb K1 hK1 => ?run) (fun hb => ?skip) (fun ρ hP hM => ?_)
 case skip => exact skA (want := false) (b := _) (by rw [hb]; rfl) hL.2 rfl
 case run =>
  simp only [List.take_succ_cons, List.take_zero]
  rw [hb] at hL
  try simp only [go_sem, simprocAttr, hL, hX]
  repeat' refine And.intro (by first | rfl | omega | (simp; done)) ?_
  refine zF (sat_spec_WordOk _) ?_
  refine hK1 _ ?_ ?_ ?_ <;> simp only [go_sem, simprocAttr, hL, hX] <;> exact rfl
 simp only [List.drop_succ_cons, List.drop_zero]
 try simp only [go_sem, simprocAttr, hL, hX] at hM
 replace hL := And.intro hP hM
 clear hP hM
 try simp only [go_sem, simprocAttr, hL, hX]
 repeat' refine And.intro (by first | rfl | omega | (simp; done)) ?_
 refine zL [1, 20] ?_
 clear hL
 intro ρ hL
 refine grp_orN (tc := 20) (tv := 25) (td := 26) (v := ?v3) 5 rfl [1] hL.2 rfl (fun hb K1 hK1 => ?run) (fun hb => ?skip) (fun ρ hP hM => ?_)
 case skip => exact skA (want := false) (b := _) (by rw [hb]; rfl) hL.2 rfl
 case run =>
  simp only [List.take_succ_cons, List.take_zero]
  rw [hb] at hL
  try simp only [go_sem, simprocAttr, hL, hX]
  repeat' refine And.intro (by first | rfl | omega | (simp; done)) ?_
  refine zF (sat_spec_WordOk _) ?_
  refine hK1 _ ?_ ?_ ?_ <;> simp only [go_sem, simprocAttr, hL, hX] <;> exact rfl
 simp only [List.drop_succ_cons, List.drop_zero]
 try simp only [go_sem, simprocAttr, hL, hX] at hM
 replace hL := And.intro hP hM
 clear hP hM
 try simp only [go_sem, simprocAttr, hL, hX]
 repeat' refine And.intro (by first | rfl | omega | (simp; done)) ?_
 refine zL [1, 27] ?_
 clear hL
 intro ρ hL
 refine grp_orN (tc := 27) (tv := 32) (td := 33) (v := ?v4) 5 rfl [1] hL.2 rfl (fun hb K1 hK1 => ?run) (fun hb => ?skip) (fun ρ hP hM => ?_)
 case skip => exact skA (want := false) (b := _) (by rw [hb]; rfl) hL.2 rfl
 case run =>
  simp only [List.take_succ_cons, List.take_zero]
  rw [hb] at hL
  try simp only [go_sem, simprocAttr, hL, hX]
  repeat' refine And.intro (by first | rfl | omega | (simp; done)) ?_
  refine zF (sat_spec_WordOk _) ?_
  refine hK1 _ ?_ ?_ ?_ <;> simp only [go_sem, simprocAttr, hL, hX] <;> exact rfl
 simp only [List.drop_succ_cons, List.drop_zero]
 try simp only [go_sem, simprocAttr, hL, hX] at hM
 replace hL := And.intro hP hM
 clear hP hM
 try simp only [go_sem, simprocAttr, hL, hX]
 repeat' refine And.intro (by first | rfl | omega | (simp; done)) ?_
 refine zE [1, 33] ?_
 clear hK K hL
 refine zC ?_ ?_
 · intro c1
   refine zS [2] ?_
   refine zR ?_
   try simp only [go_sem, simprocAttr]
   all_goals (rcases c1 with (((c1 | c1) | c1) | c1) | c1 <;> simp only [entOk, c1, Bool.false_and, Bool.and_false])
 · intro c1
   intro ρ hL
   refine awl_skip ?_
   refine zA ?_
   intro K hK
   refine zF (sat_spec_InsOk _) ?_
   refine zL [1, 37] ?_
   clear hL
   intro ρ hL
   refine grp_orN (tc := 37) (tv := 41) (td := 42) (v := ?v5) 4 rfl [1] hL.2 rfl (fun hb K1 hK1 => ?run) (fun hb => ?skip) (fun ρ hP hM => ?_)
   case skip => exact skA (want := false) (b := _) (by rw [hb]; rfl) hL.2 rfl
   case run =>
    simp only [List.take_succ_cons, List.take_zero]
    rw [hb] at hL
    try simp only [go_sem, simprocAttr, hL, hX]
    repeat' refine And.intro (by first | rfl | omega | (simp; done)) ?_
    refine hK1 _ ?_ ?_ ?_ <;> simp only [go_sem, simprocAttr, hL, hX] <;> exact rfl
   simp only [List.drop_succ_cons, List.drop_zero]
   try simp only [go_sem, simprocAttr, hL, hX] at hM
   replace hL := And.intro hP hM
   clear hP hM
   try simp only [go_sem, simprocAttr, hL, hX]
   repeat' refine And.intro (by first | rfl | omega | (simp; done)) ?_
   refine zL [1, 43] ?_
   clear hL
   intro ρ hL
   refine grp_andN (tc := 43) (tv := 47) (td := 48) (v := ?v6) 4 rfl [1] hL.2 rfl (fun hb K1 hK1 => ?run) (fun hb => ?skip) (fun ρ hP hM => ?_)
   case skip => exact skA (want := true) (b := _) (by rw [hb]; rfl) hL.2 rfl
   case run =>
    simp only [List.take_succ_cons, List.take_zero]
    rw [hb] at hL
    try simp only [go_sem, simprocAttr, hL, hX]
    repeat' refine And.intro (by first | rfl | omega | (simp; done)) ?_
    refine zF (sat_spec_l1In _ _ _) ?_
    refine hK1 _ ?_ ?_ ?_ <;> simp only [go_sem, simprocAttr, hL, hX] <;> exact rfl
   simp only [List.drop_succ_cons, List.drop_zero]
   try simp only [go_sem, simprocAttr, hL, hX] at hM
   replace hL := And.intro hP hM
   clear hP hM
   try simp only [go_sem, simprocAttr, hL, hX]
   repeat' refine And.intro (by first | rfl | omega | (simp; done)) ?_
   refine zL [1, 49] ?_
   clear hL
   intro ρ hL
   refine grp_andN (tc := 49) (tv := 53) (td := 54) (v := ?v7) 4 rfl [1] hL.2 rfl (fun hb K1 hK1 => ?run) (fun hb => ?skip) (fun ρ hP hM => ?_)
   case skip => exact skA (want := true) (b := _) (by rw [hb]; rfl) hL.2 rfl
   case run =>
    simp only [List.take_succ_cons, List.take_zero]
    rw [hb] at hL
    try simp only [go_sem, simprocAttr, hL, hX]
    repeat' refine And.intro (by first | rfl | omega | (simp; done)) ?_
    refine zF (sat_spec_l1In _ _ _) ?_
    refine hK1 _ ?_ ?_ ?_ <;> simp only [go_sem, simprocAttr, hL, hX] <;> exact rfl
   simp only [List.drop_succ_cons, List.drop_zero]
   try simp only [go_sem, simprocAttr, hL, hX] at hM
   replace hL := And.intro hP hM
   clear hP hM
   try simp only [go_sem, simprocAttr, hL, hX]
   repeat' refine And.intro (by first | rfl | omega | (simp; done)) ?_
   refine zL [1, 55] ?_
   clear hL
   intro ρ hL
   refine grp_andN (tc := 55) (tv := 59) (td := 60) (v := ?v8) 4 rfl [] hL.2 rfl (fun hb K1 hK1 => ?run) (fun hb => ?skip) (fun ρ hP hM => ?_)
   case skip => exact skA (want := true) (b := _) (by rw [hb]; rfl) hL.2 rfl
   case run =>
    simp only [List.take_succ_cons, List.take_zero]
    rw [hb] at hL
    try simp only [go_sem, simprocAttr, hL, hX]
    repeat' refine And.intro (by first | rfl | omega | (simp; done)) ?_
    refine hK1 _ ?_ ?_ ?_ <;> simp only [go_sem, simprocAttr, hL, hX] <;> exact rfl
   simp only [List.drop_succ_cons, List.drop_zero]
   clear hM hL
   have hL := hP
   clear hP
   try simp only [go_sem, simprocAttr, hL, hX]
   repeat' refine And.intro (by first | rfl | omega | (simp; done)) ?_
   refine zE [2] ?_
   clear hK K hL
   refine zR ?_
   try simp only [go_sem, simprocAttr]
   all_goals (obtain ⟨⟨⟨⟨a,b⟩,c⟩,d⟩,e⟩ := c1; simp only [entOk, a, b, c, d, e, Bool.true_and, ins_zero])
end Go.Proofs.YteojcehneipgdaaGreat.AM
