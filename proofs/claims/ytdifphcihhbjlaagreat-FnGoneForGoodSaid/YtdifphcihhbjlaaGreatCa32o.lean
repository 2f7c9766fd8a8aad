/- Steps in order. No conditions but those each theorem bears. -/
import Derived.Test.YtdifphcihhbjlaaGreatFa
import Derived.Test.YtdifphcihhbjlaaGreatM5
import Derived.Test.YtdifphcihhbjlaaGreatCb5
set_option linter.unusedSimpArgs false
set_option linter.unusedVariables false
namespace Go.Proofs.YtdifphcihhbjlaaGreat.AM
open Go
set_option maxHeartbeats 8000000
set_option maxRecDepth 100000

theorem sat_spec_InOrder (l : List Ins) (s : Stt) (a : Int) (hl : l.length ≤ 1048576) (hf : s.fit) : Sat Tryz.prog 39 [.sl l.length l.length (rows l), .agg s.cells, .int .i64 a] [] (.tuple [.agg ((inOrder l s a).1.own 0 1 2), .int .i64 (inOrder l s a).2]) (inOrder l s a).1.blks := by
 have hX := trivial
 refine sat_mk [.cell 6 33, .tmp 7] 0 32 Tryz.call39 Tryz.func39 Tryz.ntmps39 rfl rfl rfl rfl rfl ?_
 refine zI [0, 1, 2] ?_
 refine zS [0, 2, 4, 6] ?_
 refine zSF [0, 2, 4, 6, 12] (sat_spec_StateOk s hf) ?_
 refine zC ?_ ?_
 · intro c1
   refine zS [6, 7] ?_
   intro ρ hL
   refine awl_ret ?_
   refine retN (v := .tuple [.agg [.nilsl, .int .i64 0, .bool false, .int .i64 0, .int .i64 0, .int .i64 0, .int .i64 0, .nilsl, .nilsl, .int .i64 0], .int .i64 0]) [6, 6, 1] [2, 3, 4] [2, 3, 4] rfl (by simp only [go_sem, simprocAttr, hL, hX]; exact rfl) (by first | rfl | (simp only [go_sem, simprocAttr, hL, hX]; first | done | rfl)) (Ref.tuple (RefL.cons (Ref.agg (RefL.cons (Ref.nil 2 ⟨Nat.le_of_ble_eq_true rfl, Nat.le_of_ble_eq_true rfl⟩) (RefL.cons (Ref.refl _) (RefL.cons (Ref.refl _) (RefL.cons (Ref.refl _) (RefL.cons (Ref.refl _) (RefL.cons (Ref.refl _) (RefL.cons (Ref.refl _) (RefL.cons (Ref.nil 3 ⟨Nat.le_of_ble_eq_true rfl, Nat.le_of_ble_eq_true rfl⟩) (RefL.cons (Ref.nil 4 ⟨Nat.le_of_ble_eq_true rfl, Nat.le_of_ble_eq_true rfl⟩) (RefL.cons (Ref.refl _) (RefL.same [])))))))))))) (RefL.same _))) rfl (by decide) rfl rfl ?_ ?_
   all_goals try simp only [go_sem, simprocAttr, hL, hX]
   all_goals (rw [inOrder_no c1] <;> rfl)
 · intro c1
   intro ρ hL
   refine awl_skip ?_
   revert ρ hL
   refine zSF [0, 2, 6, 8] (sat_spec_l9Copy s hf) ?_
   refine zS [0, 2, 6, 8, 9] ?_
   intro ρ hL
   refine awl_seq ?_
   have e1 := hL
   refine awl_loopH (fun H0 n σ G => ∃ (u : Stt) (k : Nat), n = (min a 600).toNat - k ∧ (k ≤ (min a 600).toNat) ∧ (u.fit) ∧ (ordGo l ((min a 600).toNat - k) u (k : Int) = ordGo l (min a 600).toNat s 0) ∧ (liveE [0, 2, 6, 8] σ ρ ∧ σ 9 = .int .i64 (k : Int)) ∧ G = [⟨10, s.cells, true, false⟩, ⟨10, [.nilsl, .int .i64 0, .bool false, .int .i64 0, .int .i64 0, .int .i64 0, .int .i64 0, .nilsl, .nilsl, .int .i64 0], true, false⟩, ⟨6, rows u.regs, true, false⟩, ⟨6, rows u.mem.words, true, false⟩, ⟨1, rows u.mem.gone, true, false⟩, ⟨10, u.own 2 3 4, true, false⟩]) (fun H0 σ G => ∃ (u : Stt) (k : Nat), (ordGo l (min a 600).toNat s 0 = (u, (k : Int))) ∧ (liveE [6, 8] σ ρ ∧ σ 9 = .int .i64 (k : Int)) ∧ G = [⟨10, s.cells, true, false⟩, ⟨10, [.nilsl, .int .i64 0, .bool false, .int .i64 0, .int .i64 0, .int .i64 0, .int .i64 0, .nilsl, .nilsl, .int .i64 0], true, false⟩, ⟨6, rows u.regs, true, false⟩, ⟨6, rows u.mem.words, true, false⟩, ⟨1, rows u.mem.gone, true, false⟩, ⟨10, u.own 2 3 4, true, false⟩]) ((fun (u : Stt) (k : Nat) => (min a 600).toNat - k) s  0) ?init1 (fun n ρ G hI => ?round1) (fun ρ G hJ => ?after1)
   case init1 => exact ⟨s, 0, rfl, (Nat.zero_le _), (hf), (rfl), ⟨liveE_refl _ _, (hL.2.2.2.2)⟩, rfl⟩
   case round1 =>
    clear hL
    obtain ⟨u, k, hn, i1_0, i1_1, i1_2, hL, hG⟩ := hI
    subst hG
    try simp only [go_sem, simprocAttr, e1, hX] at hL
    refine zA ?_
    intro K hK
    refine zF (sat_spec_l1Min _ _) ?_
    refine zL [0, 2, 6, 8, 9, 20] ?_
    clear hL
    intro ρ hL
    refine grp_andN (tc := 20) (tv := 23) (td := 24) (v := ?v1) 3 rfl [0, 2, 6, 8, 9] hL.2.2.2.2.2 rfl (fun hb K1 hK1 => ?run) (fun hb => ?skip) (fun ρ hP hM => ?_)
    case skip => exact skA (want := true) (b := _) (by rw [hb]; rfl) hL.2.2.2.2.2 rfl
    case run =>
     simp only [List.take_succ_cons, List.take_zero]
     rw [hb] at hL
     try simp only [go_sem, simprocAttr, hL, hX]
     repeat' refine And.intro (by first | rfl | omega | (simp; done)) ?_
     refine hK1 _ ?_ ?_ ?_ <;> simp only [go_sem, simprocAttr, hL, hX] <;> exact rfl
    simp only [List.drop_succ_cons, List.drop_zero]
    try simp only [go_sem, simprocAttr, hL, hX] at hM
    replace hL := And.intro hP hM
    clear hP hM
    try simp only [go_sem, simprocAttr, hL, hX]
    repeat' refine And.intro (by first | rfl | omega | (simp; done)) ?_
    refine zE [0, 2, 6, 8, 9, 24] ?_
    clear hK K hL
    refine zC ?_ ?_
    · intro c2
      intro ρ hL
      refine awl_skip ?_
      refine awl_block fun R1 hw1 hR1 => ?_
      revert ρ hL
      refine zSF [0, 2, 6, 8, 9] (sat_spec_Step l u hl i1_1) ?_
      have wk : IntKind.i64.wrap ((k : Int) + 1) = ((k + 1 : Nat) : Int) := by rw [wrap64 (by omega)]; omega
      have hX0 := hX
      replace hX := And.intro wk hX
      refine zS [0, 2, 6, 8, 9] ?_
      clear hX
      have hX := hX0
      clear hX0
      intro ρ hL
      refine awl_nil ?_
      refine blk_normal (hR1 _ _ (.mk ?_))
      refine awl_nil ?_
      refine loop_againW (Wk.keep [0, 1, 6, 7, 8, 5] rfl) _ ?meas ⟨(step l u), (k + 1), rfl, (by omega), (by exact step_fit i1_1), (by rw [← i1_2, ord_step (by omega) c2.2]), ⟨(by simp only [go_sem, simprocAttr, hL, hX, e1]), (by simp only [go_sem, simprocAttr, hL, hX, e1]; first | done | rfl)⟩, (by simp only [go_sem, simprocAttr, hL, hX, e1]; first | done | rfl)⟩
      case meas => subst hn; omega
    · intro c2
      intro ρ hL
      refine awl_exit ?_
      refine loop_break ?_
      exact ⟨u, k, (by rw [← i1_2]; exact ord_stop (by rcases c2 with c2 | c2; exact Or.inl (by omega); exact Or.inr c2)), ⟨(by simp only [go_sem, simprocAttr, hL, hX, e1]), (hL.2.2.2.2.1)⟩, rfl⟩
   case after1 =>
    clear hL
    obtain ⟨u, k, j1_0, hL, hG⟩ := hJ
    subst hG
    try simp only [go_sem, simprocAttr, e1, hX] at hL
    revert ρ hL
    refine zS [6, 7] ?_
    refine zK [2, 3, 4] [2, 3, 4] ?_ ?_
    all_goals try simp only [go_sem, simprocAttr, hX]
    all_goals try clear hR1
    all_goals (rw [inOrder_go c1, j1_0] <;> rfl)
theorem sat_impl_InOrder (l : List Ins) (s : Stt) (a : Int) (hl : l.length ≤ 1048576) (hf : s.fit) : Sat Tryz.prog 38 [.sl l.length l.length (rows l), .agg s.cells, .int .i64 a] [] (.tuple [.agg ((inOrder l s a).1.own 0 1 2), .int .i64 (inOrder l s a).2]) (inOrder l s a).1.blks := by
 have hX := trivial
 refine sat_mk [.cell 6 33, .tmp 7] 0 32 Tryz.call38 Tryz.func38 Tryz.ntmps38 rfl rfl rfl rfl rfl ?_
 refine zI [0, 1, 2] ?_
 refine zS [0, 2, 4, 6] ?_
 refine zSF [0, 2, 4, 6, 12] (sat_impl_StateOk s hf) ?_
 refine zC ?_ ?_
 · intro c1
   refine zS [6, 7] ?_
   intro ρ hL
   refine awl_ret ?_
   refine retN (v := .tuple [.agg [.nilsl, .int .i64 0, .bool false, .int .i64 0, .int .i64 0, .int .i64 0, .int .i64 0, .nilsl, .nilsl, .int .i64 0], .int .i64 0]) [6, 6, 1] [2, 3, 4] [2, 3, 4] rfl (by simp only [go_sem, simprocAttr, hL, hX]; exact rfl) (by first | rfl | (simp only [go_sem, simprocAttr, hL, hX]; first | done | rfl)) (Ref.tuple (RefL.cons (Ref.agg (RefL.cons (Ref.nil 2 ⟨Nat.le_of_ble_eq_true rfl, Nat.le_of_ble_eq_true rfl⟩) (RefL.cons (Ref.refl _) (RefL.cons (Ref.refl _) (RefL.cons (Ref.refl _) (RefL.cons (Ref.refl _) (RefL.cons (Ref.refl _) (RefL.cons (Ref.refl _) (RefL.cons (Ref.nil 3 ⟨Nat.le_of_ble_eq_true rfl, Nat.le_of_ble_eq_true rfl⟩) (RefL.cons (Ref.nil 4 ⟨Nat.le_of_ble_eq_true rfl, Nat.le_of_ble_eq_true rfl⟩) (RefL.cons (Ref.refl _) (RefL.same [])))))))))))) (RefL.same _))) rfl (by decide) rfl rfl ?_ ?_
   all_goals try simp only [go_sem, simprocAttr, hL, hX]
   all_goals (rw [inOrder_no c1] <;> rfl)
 · intro c1
   intro ρ hL
   refine awl_skip ?_
   revert ρ hL
   refine zSF [0, 2, 6, 8] (sat_impl_cloneState s hf) ?_
   refine zS [0, 2, 6, 8, 9] ?_
   intro ρ hL
   refine awl_seq ?_
   have e1 := hL
   refine awl_loopH (fun H0 n σ G => ∃ (u : Stt) (k : Nat), n = (min a 600).toNat - k ∧ (k ≤ (min a 600).toNat) ∧ (u.fit) ∧ (ordGo l ((min a 600).toNat - k) u (k : Int) = ordGo l (min a 600).toNat s 0) ∧ (liveE [0, 2, 6, 8] σ ρ ∧ σ 9 = .int .i64 (k : Int)) ∧ G = [⟨10, s.cells, true, false⟩, ⟨10, [.nilsl, .int .i64 0, .bool false, .int .i64 0, .int .i64 0, .int .i64 0, .int .i64 0, .nilsl, .nilsl, .int .i64 0], true, false⟩, ⟨6, rows u.regs, true, false⟩, ⟨6, rows u.mem.words, true, false⟩, ⟨1, rows u.mem.gone, true, false⟩, ⟨10, u.own 2 3 4, true, false⟩]) (fun H0 σ G => ∃ (u : Stt) (k : Nat), (ordGo l (min a 600).toNat s 0 = (u, (k : Int))) ∧ (liveE [6, 8] σ ρ ∧ σ 9 = .int .i64 (k : Int)) ∧ G = [⟨10, s.cells, true, false⟩, ⟨10, [.nilsl, .int .i64 0, .bool false, .int .i64 0, .int .i64 0, .int .i64 0, .int .i64 0, .nilsl, .nilsl, .int .i64 0], true, false⟩, ⟨6, rows u.regs, true, false⟩, ⟨6, rows u.mem.words, true, false⟩, ⟨1, rows u.mem.gone, true, false⟩, ⟨10, u.own 2 3 4, true, false⟩]) ((fun (u : Stt) (k : Nat) => (min a 600).toNat - k) s  0) ?init1 (fun n ρ G hI => ?round1) (fun ρ G hJ => ?after1)
   case init1 => exact ⟨s, 0, rfl, (Nat.zero_le _), (hf), (rfl), ⟨liveE_refl _ _, (hL.2.2.2.2)⟩, rfl⟩
   case round1 =>
    clear hL
    obtain ⟨u, k, hn, i1_0, i1_1, i1_2, hL, hG⟩ := hI
    subst hG
    try simp only [go_sem, simprocAttr, e1, hX] at hL
    refine zA ?_
    intro K hK
    refine zL [0, 2, 6, 8, 9, 20] ?_
    clear hL
    intro ρ hL
    refine grp_andN (tc := 20) (tv := 23) (td := 24) (v := ?v1) 3 rfl [0, 2, 6, 8, 9] hL.2.2.2.2.2 rfl (fun hb K1 hK1 => ?run) (fun hb => ?skip) (fun ρ hP hM => ?_)
    case skip => exact skA (want := true) (b := _) (by rw [hb]; rfl) hL.2.2.2.2.2 rfl
    case run =>
     simp only [List.take_succ_cons, List.take_zero]
     rw [hb] at hL
     try simp only [go_sem, simprocAttr, hL, hX]
     repeat' refine And.intro (by first | rfl | omega | (simp; done)) ?_
     refine hK1 _ ?_ ?_ ?_ <;> simp only [go_sem, simprocAttr, hL, hX] <;> exact rfl
    simp only [List.drop_succ_cons, List.drop_zero]
    try simp only [go_sem, simprocAttr, hL, hX] at hM
    replace hL := And.intro hP hM
    clear hP hM
    try simp only [go_sem, simprocAttr, hL, hX]
    repeat' refine And.intro (by first | rfl | omega | (simp; done)) ?_
    refine zE [0, 2, 6, 8, 9, 24] ?_
    clear hK K hL
    refine zC ?_ ?_
    · intro c2
      intro ρ hL
      refine awl_skip ?_
      refine awl_block fun R1 hw1 hR1 => ?_
      revert ρ hL
      refine zSF [0, 2, 6, 8, 9] (sat_impl_Step l u hl i1_1) ?_
      have wk : IntKind.i64.wrap ((k : Int) + 1) = ((k + 1 : Nat) : Int) := by rw [wrap64 (by omega)]; omega
      have hX0 := hX
      replace hX := And.intro wk hX
      refine zS [0, 2, 6, 8, 9] ?_
      clear hX
      have hX := hX0
      clear hX0
      intro ρ hL
      refine awl_nil ?_
      refine blk_normal (hR1 _ _ (.mk ?_))
      refine awl_nil ?_
      refine loop_againW (Wk.keep [0, 1, 6, 7, 8, 5] rfl) _ ?meas ⟨(step l u), (k + 1), rfl, (by omega), (by exact step_fit i1_1), (by rw [← i1_2, ord_step (by omega) c2.2]), ⟨(by simp only [go_sem, simprocAttr, hL, hX, e1]), (by simp only [go_sem, simprocAttr, hL, hX, e1]; first | done | rfl)⟩, (by simp only [go_sem, simprocAttr, hL, hX, e1]; first | done | rfl)⟩
      case meas => subst hn; omega
    · intro c2
      intro ρ hL
      refine awl_exit ?_
      refine loop_break ?_
      exact ⟨u, k, (by rw [← i1_2]; exact ord_stop (by rcases c2 with c2 | c2; exact Or.inl (by omega); exact Or.inr c2)), ⟨(by simp only [go_sem, simprocAttr, hL, hX, e1]), (hL.2.2.2.2.1)⟩, rfl⟩
   case after1 =>
    clear hL
    obtain ⟨u, k, j1_0, hL, hG⟩ := hJ
    subst hG
    try simp only [go_sem, simprocAttr, e1, hX] at hL
    revert ρ hL
    refine zS [6, 7] ?_
    refine zK [2, 3, 4] [2, 3, 4] ?_ ?_
    all_goals try simp only [go_sem, simprocAttr, hX]
    all_goals try clear hR1
    all_goals (rw [inOrder_go c1, j1_0] <;> rfl)
end Go.Proofs.YtdifphcihhbjlaaGreat.AM
