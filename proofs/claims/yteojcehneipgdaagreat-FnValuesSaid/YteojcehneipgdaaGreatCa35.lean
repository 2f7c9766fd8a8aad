/- Fetching into a core. No conditions but those each theorem bears. -/
import Derived.Test.YteojcehneipgdaaGreatFa
import Derived.Test.YteojcehneipgdaaGreatM5
import Derived.Test.YteojcehneipgdaaGreatCa14
import Derived.Test.YteojcehneipgdaaGreatCa20f
import Derived.Test.YteojcehneipgdaaGreatCa5b
import Derived.Test.YteojcehneipgdaaGreatCa34
set_option linter.unusedSimpArgs false
set_option linter.unusedVariables false
namespace Go.Proofs.YteojcehneipgdaaGreat.AM
open Go
set_option maxHeartbeats 8000000
set_option maxRecDepth 100000

theorem sat_spec_Pull (l : List Ins) (c : Cor) (hl : l.length ≤ 1048576) (hf : c.fit) : Sat Tryz.prog 31 [.sl l.length l.length (rows l), .agg c.cells] [] (.tuple [.agg ((pull l c).1.own 0 1 2 3 4), .bool (pull l c).2]) (pull l c).1.blks := by
 have hX := trivial
 refine sat_mk [.cell 4 52, .tmp 5] 0 74 Tryz.call31 Tryz.func31 Tryz.ntmps31 rfl rfl rfl rfl rfl ?_
 refine zI [0, 1] ?_
 refine zS [0, 3, 4] ?_
 refine zSF [0, 3, 4, 12] (sat_spec_CoreOk c hf) ?_
 refine zC ?_ ?_
 · intro c1
   refine zS [4, 5] ?_
   intro ρ hL
   refine awl_ret ?_
   refine retN (v := .tuple [.agg [.nilsl, .int .i64 0, .bool false, .int .i64 0, .int .i64 0, .int .i64 0, .int .i64 0, .nilsl, .nilsl, .int .i64 0, .nilsl, .int .i64 0, .bool false, .int .i64 0, .int .i64 0, .int .i64 0, .int .i64 0, .bool false, .nilsl], .bool false]) [6, 6, 1, 40, 1] [2, 3, 4, 5, 6] [2, 3, 4, 5, 6] rfl (by simp only [go_sem, simprocAttr, hL, hX]; exact rfl) (by first | rfl | (simp only [go_sem, simprocAttr, hL, hX]; first | done | rfl)) (Ref.tuple (RefL.cons (Ref.agg (RefL.cons (Ref.nil 2 ⟨Nat.le_of_ble_eq_true rfl, Nat.le_of_ble_eq_true rfl⟩) (RefL.cons (Ref.refl _) (RefL.cons (Ref.refl _) (RefL.cons (Ref.refl _) (RefL.cons (Ref.refl _) (RefL.cons (Ref.refl _) (RefL.cons (Ref.refl _) (RefL.cons (Ref.nil 3 ⟨Nat.le_of_ble_eq_true rfl, Nat.le_of_ble_eq_true rfl⟩) (RefL.cons (Ref.nil 4 ⟨Nat.le_of_ble_eq_true rfl, Nat.le_of_ble_eq_true rfl⟩) (RefL.cons (Ref.refl _) (RefL.cons (Ref.nil 5 ⟨Nat.le_of_ble_eq_true rfl, Nat.le_of_ble_eq_true rfl⟩) (RefL.cons (Ref.refl _) (RefL.cons (Ref.refl _) (RefL.cons (Ref.refl _) (RefL.cons (Ref.refl _) (RefL.cons (Ref.refl _) (RefL.cons (Ref.refl _) (RefL.cons (Ref.refl _) (RefL.cons (Ref.nil 6 ⟨Nat.le_of_ble_eq_true rfl, Nat.le_of_ble_eq_true rfl⟩) (RefL.same []))))))))))))))))))))) (RefL.same _))) rfl (by decide) rfl rfl ?_ ?_
   all_goals try simp only [go_sem, simprocAttr, hL, hX]
   all_goals (rw [pull_no c1] <;> rfl)
 · intro c1
   intro ρ hL
   refine awl_skip ?_
   revert ρ hL
   refine zSF [0, 3, 4, 6] (sat_spec_l12Copy c hf) ?_
   have hr6 := (corOk_parts c1).2.2.1
   intro ρ hL
   refine zA ?_
   intro K hK
   refine zL [0, 3, 4, 6, 18] ?_
   clear hL
   intro ρ hL
   refine grp_orN (tc := 18) (tv := 22) (td := 23) (v := ?v1) 4 rfl [0, 3, 4, 6] hL.2.2.2.2 rfl (fun hb K1 hK1 => ?run) (fun hb => ?skip) (fun ρ hP hM => ?_)
   case skip => exact skA (want := false) (b := _) (by rw [hb]; rfl) hL.2.2.2.2 rfl
   case run =>
    simp only [List.take_succ_cons, List.take_zero]
    rw [hb] at hL
    try simp only [go_sem, simprocAttr, hL, hX]
    repeat' refine And.intro (by first | rfl | omega | (simp; done)) ?_
    refine hK1 _ ?_ ?_ ?_ <;> simp only [go_sem, simprocAttr, hL, hX] <;> exact rfl
   simp only [List.drop_succ_cons, List.drop_zero]
   try simp only [go_sem, simprocAttr, hL, hX] at hM
   replace hL := And.intro hP hM
   clear hP hM
   try simp only [go_sem, simprocAttr, hL, hX]
   repeat' refine And.intro (by first | rfl | omega | (simp; done)) ?_
   refine zL [0, 3, 4, 6, 24] ?_
   clear hL
   intro ρ hL
   refine grp_orN (tc := 24) (tv := 28) (td := 29) (v := ?v2) 4 rfl [0, 3, 4, 6] hL.2.2.2.2 rfl (fun hb K1 hK1 => ?run) (fun hb => ?skip) (fun ρ hP hM => ?_)
   case skip => exact skA (want := false) (b := _) (by rw [hb]; rfl) hL.2.2.2.2 rfl
   case run =>
    simp only [List.take_succ_cons, List.take_zero]
    rw [hb] at hL
    try simp only [go_sem, simprocAttr, hL, hX]
    repeat' refine And.intro (by first | rfl | omega | (simp; done)) ?_
    refine hK1 _ ?_ ?_ ?_ <;> simp only [go_sem, simprocAttr, hL, hX] <;> exact rfl
   simp only [List.drop_succ_cons, List.drop_zero]
   try simp only [go_sem, simprocAttr, hL, hX] at hM
   replace hL := And.intro hP hM
   clear hP hM
   try simp only [go_sem, simprocAttr, hL, hX]
   repeat' refine And.intro (by first | rfl | omega | (simp; done)) ?_
   refine zE [0, 3, 4, 6, 29] ?_
   clear hK K hL
   refine zC ?_ ?_
   · intro c2
     refine zS [4, 5] ?_
     refine zK [2, 3, 4, 5, 6] [2, 3, 4, 5, 6] ?_ ?_
     all_goals try simp only [go_sem, simprocAttr, hX]
     all_goals (rw [pull_idle c1 (c2.elim (fun h => h.elim Or.inl (fun h => Or.inr (Or.inl (by omega)))) (fun h => Or.inr (Or.inr h)))] <;> rfl)
   · intro c2
     intro ρ hL
     refine awl_skip ?_
     revert ρ hL
     refine zSF [3, 4, 6, 7, 8] (sat_spec_Fetch l c.next hl) ?_
     refine zS [3, 4, 6, 7, 8, 39] ?_
     refine zC ?_ ?_
     · intro c3
       intro ρ hL
       refine zAD [0, 1, 0, 4, 0, 0, 32, 112, 0, 256, 1020, 2044, 4095, 8191, 16383] ?_
       intro K hK
       refine zFD [0, 1, 0, 4, 0, 0, 32, 112, 0, 256, 1020, 2044, 4095, 8191, 16383] (sat_spec_l9Trap _ _) ?_
       refine zE [4, 6] ?_
       clear hK K hL
       refine zS [4, 6] ?_
       refine zS [4, 5] ?_
       refine zK [2, 3, 4, 10, 6] [2, 3, 4, 10, 6] ?_ ?_
       all_goals try simp only [go_sem, simprocAttr, hX]
       all_goals (rw [pull_trap c1 (fun h => h.elim (fun h => by rw [c2.1.1] at h; cases h) (fun h => h.elim (fun h => by omega) (fun h => h c2.2))) c3] <;> (try simp only [withRob, rows_append, rows_one, List.length_append, List.length_cons, List.length_nil]) <;> first | done | rfl)
     · intro c3
       intro ρ hL
       refine awl_skip ?_
       revert ρ hL
       refine zSF [3, 4, 6, 7, 9] (sat_spec_Guess c.guesses c.next (Nat.le_trans hf.2.2 (by decide))) ?_
       refine zS [4, 6, 9] ?_
       refine zS [4, 6] ?_
       refine zS [4, 5] ?_
       refine zK [2, 3, 4, 11, 6] [2, 3, 4, 11, 6] ?_ ?_
       all_goals try simp only [go_sem, simprocAttr, hX]
       all_goals (rw [pull_go c1 (fun h => h.elim (fun h => by rw [c2.1.1] at h; cases h) (fun h => h.elim (fun h => by omega) (fun h => h c2.2))) c3] <;> (try simp only [withRob, rows_append, rows_one, List.length_append, List.length_cons, List.length_nil]) <;> first | done | rfl)
theorem sat_impl_Pull (l : List Ins) (c : Cor) (hl : l.length ≤ 1048576) (hf : c.fit) : Sat Tryz.prog 30 [.sl l.length l.length (rows l), .agg c.cells] [] (.tuple [.agg ((pull l c).1.own 0 1 2 3 4), .bool (pull l c).2]) (pull l c).1.blks := by
 have hX := trivial
 refine sat_mk [.cell 4 52, .tmp 5] 0 73 Tryz.call30 Tryz.func30 Tryz.ntmps30 rfl rfl rfl rfl rfl ?_
 refine zI [0, 1] ?_
 refine zS [0, 3, 4] ?_
 refine zSF [0, 3, 4, 11] (sat_impl_CoreOk c hf) ?_
 refine zC ?_ ?_
 · intro c1
   refine zS [4, 5] ?_
   intro ρ hL
   refine awl_ret ?_
   refine retN (v := .tuple [.agg [.nilsl, .int .i64 0, .bool false, .int .i64 0, .int .i64 0, .int .i64 0, .int .i64 0, .nilsl, .nilsl, .int .i64 0, .nilsl, .int .i64 0, .bool false, .int .i64 0, .int .i64 0, .int .i64 0, .int .i64 0, .bool false, .nilsl], .bool false]) [6, 6, 1, 40, 1] [2, 3, 4, 5, 6] [2, 3, 4, 5, 6] rfl (by simp only [go_sem, simprocAttr, hL, hX]; exact rfl) (by first | rfl | (simp only [go_sem, simprocAttr, hL, hX]; first | done | rfl)) (Ref.tuple (RefL.cons (Ref.agg (RefL.cons (Ref.nil 2 ⟨Nat.le_of_ble_eq_true rfl, Nat.le_of_ble_eq_true rfl⟩) (RefL.cons (Ref.refl _) (RefL.cons (Ref.refl _) (RefL.cons (Ref.refl _) (RefL.cons (Ref.refl _) (RefL.cons (Ref.refl _) (RefL.cons (Ref.refl _) (RefL.cons (Ref.nil 3 ⟨Nat.le_of_ble_eq_true rfl, Nat.le_of_ble_eq_true rfl⟩) (RefL.cons (Ref.nil 4 ⟨Nat.le_of_ble_eq_true rfl, Nat.le_of_ble_eq_true rfl⟩) (RefL.cons (Ref.refl _) (RefL.cons (Ref.nil 5 ⟨Nat.le_of_ble_eq_true rfl, Nat.le_of_ble_eq_true rfl⟩) (RefL.cons (Ref.refl _) (RefL.cons (Ref.refl _) (RefL.cons (Ref.refl _) (RefL.cons (Ref.refl _) (RefL.cons (Ref.refl _) (RefL.cons (Ref.refl _) (RefL.cons (Ref.refl _) (RefL.cons (Ref.nil 6 ⟨Nat.le_of_ble_eq_true rfl, Nat.le_of_ble_eq_true rfl⟩) (RefL.same []))))))))))))))))))))) (RefL.same _))) rfl (by decide) rfl rfl ?_ ?_
   all_goals try simp only [go_sem, simprocAttr, hL, hX]
   all_goals (rw [pull_no c1] <;> rfl)
 · intro c1
   intro ρ hL
   refine awl_skip ?_
   revert ρ hL
   refine zSF [0, 3, 4, 6] (sat_impl_cloneCore c hf) ?_
   have hr6 := (corOk_parts c1).2.2.1
   intro ρ hL
   refine zA ?_
   intro K hK
   refine zL [0, 3, 4, 6, 17] ?_
   clear hL
   intro ρ hL
   refine grp_orN (tc := 17) (tv := 21) (td := 22) (v := ?v1) 4 rfl [0, 3, 4, 6] hL.2.2.2.2 rfl (fun hb K1 hK1 => ?run) (fun hb => ?skip) (fun ρ hP hM => ?_)
   case skip => exact skA (want := false) (b := _) (by rw [hb]; rfl) hL.2.2.2.2 rfl
   case run =>
    simp only [List.take_succ_cons, List.take_zero]
    rw [hb] at hL
    try simp only [go_sem, simprocAttr, hL, hX]
    repeat' refine And.intro (by first | rfl | omega | (simp; done)) ?_
    refine hK1 _ ?_ ?_ ?_ <;> simp only [go_sem, simprocAttr, hL, hX] <;> exact rfl
   simp only [List.drop_succ_cons, List.drop_zero]
   try simp only [go_sem, simprocAttr, hL, hX] at hM
   replace hL := And.intro hP hM
   clear hP hM
   try simp only [go_sem, simprocAttr, hL, hX]
   repeat' refine And.intro (by first | rfl | omega | (simp; done)) ?_
   refine zL [0, 3, 4, 6, 23] ?_
   clear hL
   intro ρ hL
   refine grp_orN (tc := 23) (tv := 27) (td := 28) (v := ?v2) 4 rfl [0, 3, 4, 6] hL.2.2.2.2 rfl (fun hb K1 hK1 => ?run) (fun hb => ?skip) (fun ρ hP hM => ?_)
   case skip => exact skA (want := false) (b := _) (by rw [hb]; rfl) hL.2.2.2.2 rfl
   case run =>
    simp only [List.take_succ_cons, List.take_zero]
    rw [hb] at hL
    try simp only [go_sem, simprocAttr, hL, hX]
    repeat' refine And.intro (by first | rfl | omega | (simp; done)) ?_
    refine hK1 _ ?_ ?_ ?_ <;> simp only [go_sem, simprocAttr, hL, hX] <;> exact rfl
   simp only [List.drop_succ_cons, List.drop_zero]
   try simp only [go_sem, simprocAttr, hL, hX] at hM
   replace hL := And.intro hP hM
   clear hP hM
   try simp only [go_sem, simprocAttr, hL, hX]
   repeat' refine And.intro (by first | rfl | omega | (simp; done)) ?_
   refine zE [0, 3, 4, 6, 28] ?_
   clear hK K hL
   refine zC ?_ ?_
   · intro c2
     refine zS [4, 5] ?_
     refine zK [2, 3, 4, 5, 6] [2, 3, 4, 5, 6] ?_ ?_
     all_goals try simp only [go_sem, simprocAttr, hX]
     all_goals (rw [pull_idle c1 (c2.elim (fun h => h.elim Or.inl (fun h => Or.inr (Or.inl (by omega)))) (fun h => Or.inr (Or.inr h)))] <;> rfl)
   · intro c2
     intro ρ hL
     refine awl_skip ?_
     revert ρ hL
     refine zSF [3, 4, 6, 7, 8] (sat_impl_Fetch l c.next hl) ?_
     refine zS [3, 4, 6, 7, 8, 38] ?_
     refine zC ?_ ?_
     · intro c3
       intro ρ hL
       refine zAD [0, 1, 0, 4, 0, 0, 32, 112, 0, 256, 1020, 2044, 4095, 8191, 16383] ?_
       intro K hK
       refine zFD [0, 1, 0, 4, 0, 0, 32, 112, 0, 256, 1020, 2044, 4095, 8191, 16383] (sat_impl_trapped _ _) ?_
       refine zE [4, 6] ?_
       clear hK K hL
       refine zS [4, 6] ?_
       refine zS [4, 5] ?_
       refine zK [2, 3, 4, 10, 6] [2, 3, 4, 10, 6] ?_ ?_
       all_goals try simp only [go_sem, simprocAttr, hX]
       all_goals (rw [pull_trap c1 (fun h => h.elim (fun h => by rw [c2.1.1] at h; cases h) (fun h => h.elim (fun h => by omega) (fun h => h c2.2))) c3] <;> (try simp only [withRob, rows_append, rows_one, List.length_append, List.length_cons, List.length_nil]) <;> first | done | rfl)
     · intro c3
       intro ρ hL
       refine awl_skip ?_
       revert ρ hL
       refine zSF [3, 4, 6, 7] (sat_impl_Guess c.guesses c.next (Nat.le_trans hf.2.2 (by decide))) ?_
       refine zS [4, 6] ?_
       refine zS [4, 5] ?_
       refine zK [2, 3, 4, 10, 6] [2, 3, 4, 10, 6] ?_ ?_
       all_goals try simp only [go_sem, simprocAttr, hX]
       all_goals (rw [pull_go c1 (fun h => h.elim (fun h => by rw [c2.1.1] at h; cases h) (fun h => h.elim (fun h => by omega) (fun h => h c2.2))) c3] <;> (try simp only [withRob, rows_append, rows_one, List.length_append, List.length_cons, List.length_nil]) <;> first | done | rfl)
end Go.Proofs.YteojcehneipgdaaGreat.AM
