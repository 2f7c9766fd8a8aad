/- Steps in order; runs. No conditions but those each theorem bears. -/
import Derived.Test.YtgpjgljgplngpaaGreatDoorFa
import Derived.Test.YtgpjgljgplngpaaGreatDoorM5
import Derived.Test.YtgpjgljgplngpaaGreatDoorCb5
set_option linter.unusedSimpArgs false
set_option linter.unusedVariables false
namespace Go.Proofs.YtgpjgljgplngpaaGreatDoor.AM
open Go
set_option maxHeartbeats 8000000
set_option maxRecDepth 100000
theorem sat_spec_Run (l : List Ins) (s : Stt) (ns : List Int) (hl : l.length ≤ 1048576) (hf : s.fit) (hn_ : ns.length ≤ 1048576) : Sat Tryz.prog 169 [.sl l.length l.length (rows l), .agg s.cells, .sl ns.length ns.length (ints ns)] [] (.agg ((run l s ns).own 0 1 2)) (run l s ns).blks := by
 have hX := trivial
 refine sat_mk [.cell 6 32] 0 43 Tryz.call169 Tryz.func169 Tryz.ntmps169 rfl rfl rfl rfl rfl ?_
 refine zI [0, 1, 2] ?_
 refine zS [0, 2, 4, 6] ?_
 refine zSF [0, 2, 4, 6, 11] (sat_spec_StateOk s hf) ?_
 refine zC ?_ ?_
 ·intro c1
  refine zS [6] ?_
  intro ρ hL
  refine awl_ret ?_
  refine retN (v := .agg [.nilsl, .int .i64 0, .bool false, .int .i64 0, .int .i64 0, .int .i64 0, .int .i64 0, .nilsl, .nilsl, .int .i64 0]) [6, 6, 1] [2, 3, 4] [2, 3, 4] rfl (by simp only [go_sem, simprocAttr, hL, hX]; exact rfl) (by first | rfl | (simp only [go_sem, simprocAttr, hL, hX]; first | done | rfl)) (Ref.agg (RefL.cons (Ref.nil 2 ⟨Nat.le_of_ble_eq_true rfl, Nat.le_of_ble_eq_true rfl⟩) (RefL.cons (Ref.refl _) (RefL.cons (Ref.refl _) (RefL.cons (Ref.refl _) (RefL.cons (Ref.refl _) (RefL.cons (Ref.refl _) (RefL.cons (Ref.refl _) (RefL.cons (Ref.nil 3 ⟨Nat.le_of_ble_eq_true rfl, Nat.le_of_ble_eq_true rfl⟩) (RefL.cons (Ref.nil 4 ⟨Nat.le_of_ble_eq_true rfl, Nat.le_of_ble_eq_true rfl⟩) (RefL.cons (Ref.refl _) (RefL.same [])))))))))))) rfl (by decide) rfl rfl ?_ ?_
  all_goals try simp only [go_sem, simprocAttr, hL, hX]
  all_goals (rw [run_no c1] <;> rfl)
 ·intro c1 ρ hL
  refine awl_skip ?_
  revert ρ hL
  refine zSF [0, 2, 6, 7] (sat_spec_l9Copy s hf) ?_
  refine zS [0, 2, 6, 7, 8] ?_
  intro ρ hL
  have e1 := hL
  refine awl_loopH (fun H0 n σ G => ∃ (u : Stt) (i : Nat), n = ns.length - i ∧ (i ≤ ns.length) ∧ (ns.length ≤ 600 ∨ i = 0) ∧ (u.fit) ∧ ((ns.take i).foldl (runOne l) s = u) ∧ (liveE [0, 2, 6, 7] σ ρ ∧ σ 8 = .int .i64 (i : Int)) ∧ G = [⟨10, s.cells, true, false⟩, ⟨10, [.nilsl, .int .i64 0, .bool false, .int .i64 0, .int .i64 0, .int .i64 0, .int .i64 0, .nilsl, .nilsl, .int .i64 0], true, false⟩, ⟨6, rows u.regs, true, false⟩, ⟨6, rows u.mem.words, true, false⟩, ⟨1, rows u.mem.gone, true, false⟩, ⟨10, u.own 2 3 4, true, false⟩]) (fun H0 σ G => ∃ (u : Stt), (run l s ns = u) ∧ (liveE [6, 7] σ ρ) ∧ G = [⟨10, s.cells, true, false⟩, ⟨10, [.nilsl, .int .i64 0, .bool false, .int .i64 0, .int .i64 0, .int .i64 0, .int .i64 0, .nilsl, .nilsl, .int .i64 0], true, false⟩, ⟨6, rows u.regs, true, false⟩, ⟨6, rows u.mem.words, true, false⟩, ⟨1, rows u.mem.gone, true, false⟩, ⟨10, u.own 2 3 4, true, false⟩]) ((fun (u : Stt) (i : Nat) => ns.length - i) s  0) ?init1 (fun n ρ G hI => ?round1) (fun ρ G hJ => ?after1)
  case init1 => exact ⟨s, 0, rfl, (Nat.zero_le _), (Or.inr rfl), (hf), (rfl), ⟨liveE_refl _ _, (hL.2.2.2.2)⟩, rfl⟩
  case round1 =>
   clear hL
   obtain ⟨u, i, hn, i1_0, i1_1, i1_2, i1_3, hL, hG⟩ := hI
   subst hG
   try simp only [go_sem, simprocAttr, e1, hX] at hL
   refine zA ?_
   intro K hK
   refine zL [0, 2, 6, 7, 8, 19] ?_
   clear hL
   intro ρ hL
   refine grp_andN (v := ?v1) 3 rfl [0, 2, 6, 7, 8] hL.2.2.2.2.2 rfl (fun hb K1 hK1 => ?run) (fun hb => skA (want := true) (b := _) (by rw [hb]; rfl) hL.2.2.2.2.2 rfl) (fun ρ hP hM => ?_)
   case run => exact zR1
   refine zPp ?_
   clear hL hP hM
   intro hL
   refine zE [0, 2, 6, 7, 8, 23] ?_
   clear hK K hL
   refine zC ?_ ?_
   ·intro c2 ρ hL
    refine awl_skip (awl_seq (awl_block fun R1 hw1 hR1 => ?_))
    have hi9 : i < ns.length := by omega
    revert ρ hL
    refine zSX [0, 2, 6, 7, 8, 30] (And.intro hi9 hX) ?_
    refine zC ?_ ?_
    ·intro c3
     refine zSF [0, 2, 6, 7, 8] (sat_spec_Step l u hl i1_2) ?_
     intro ρ hL
     refine awl_nil (blk_normal (hR1 _ _ (.mk ?_)))
     have wi : IntKind.i64.wrap ((i : Int) + 1) = ((i + 1 : Nat) : Int) := by rw [wrap64 (by omega)]; omega
     revert ρ hL
     refine zSX [0, 2, 6, 7, 8] (And.intro wi hX) ?_
     intro ρ hL
     refine awl_nil ?_
     refine loop_againW (Wk.keep [0, 1, 6, 7, 8, 5] rfl) _ ?meas ⟨(step l u), (i + 1), rfl, (by omega), (by exact Or.inl (by omega)), (by exact step_fit i1_2), (by rw [foldl_take hi9 i1_3, runOne_step c3]), ⟨(by simp only [go_sem, simprocAttr, hL, hX, e1]), (by simp only [go_sem, simprocAttr, hL, hX, e1]; first | done | rfl)⟩, (by simp only [go_sem, simprocAttr, hL, hX, e1]; first | done | rfl)⟩
     case meas => subst hn; omega
    ·intro c3
     have hX0 := hX
     replace hX := And.intro hi9 hX
     intro ρ hL
     refine zAD [0, 1, 0, 0, 12, 28, 63, 127, 255] ?_
     intro K hK
     refine zFD [0, 1, 0, 0, 12, 28, 63, 127, 255] (sat_spec_Sweep u.mem (ns.getD i 0) i1_2.2) ?_
     refine zE [0, 2, 6, 7, 8] ?_
     clear hK K hL
     clear hX
     have hX := hX0
     clear hX0
     intro ρ hL
     refine awl_nil (blk_normal (hR1 _ _ (.mk ?_)))
     have wi : IntKind.i64.wrap ((i : Int) + 1) = ((i + 1 : Nat) : Int) := by rw [wrap64 (by omega)]; omega
     revert ρ hL
     refine zSX [0, 2, 6, 7, 8] (And.intro wi hX) ?_
     intro ρ hL
     refine awl_nil ?_
     refine loop_againW (Wk.keep [0, 1, 2, 6, 7, 5] rfl) _ ?meas ⟨(withMem u (sweep u.mem (ns.getD i 0))), (i + 1), rfl, (by omega), (by exact Or.inl (by omega)), (by exact ⟨i1_2.1, sweep_fit i1_2.2⟩), (by rw [foldl_take hi9 i1_3, runOne_sweep c3]), ⟨(by simp only [go_sem, simprocAttr, hL, hX, e1]), (by simp only [go_sem, simprocAttr, hL, hX, e1]; first | done | rfl)⟩, (by simp only [go_sem, simprocAttr, hL, hX, e1]; first | done | rfl)⟩
     case meas => subst hn; omega
   ·intro c2 ρ hL
    refine awl_exit (loop_break ?_)
    exact ⟨u, (by by_cases hq : 600 < ns.length; rw [run_long c1 hq, ← i1_3, show i = 0 by omega]; rfl; rw [run_go c1 hq, ← i1_3, List.take_of_length_le (by omega)]), (by simp only [go_sem, simprocAttr, hL, hX, e1]), rfl⟩
  case after1 =>
   clear hL
   obtain ⟨u, j1_0, hL, hG⟩ := hJ
   subst hG
   try simp only [go_sem, simprocAttr, e1, hX] at hL
   revert ρ hL
   refine zS [6] ?_
   refine zK [2, 3, 4] [2, 3, 4] ?_ ?_
   all_goals try simp only [go_sem, simprocAttr, hX]
   all_goals ((try clear hR1); rw [j1_0] <;> rfl)
theorem sat_impl_Run (l : List Ins) (s : Stt) (ns : List Int) (hl : l.length ≤ 1048576) (hf : s.fit) (hn_ : ns.length ≤ 1048576) : Sat Tryz.prog 166 [.sl l.length l.length (rows l), .agg s.cells, .sl ns.length ns.length (ints ns)] [] (.agg ((run l s ns).own 0 1 2)) (run l s ns).blks := by
 have hX := trivial
 refine sat_mk [.cell 6 32] 0 38 Tryz.call166 Tryz.func166 Tryz.ntmps166 rfl rfl rfl rfl rfl ?_
 refine zI [0, 1, 2] ?_
 refine zS [0, 2, 4, 6] ?_
 refine zSF [0, 2, 4, 6, 12] (sat_impl_StateOk s hf) ?_
 refine zC ?_ ?_
 ·intro c1
  refine zS [6] ?_
  intro ρ hL
  refine awl_ret ?_
  refine retN (v := .agg [.nilsl, .int .i64 0, .bool false, .int .i64 0, .int .i64 0, .int .i64 0, .int .i64 0, .nilsl, .nilsl, .int .i64 0]) [6, 6, 1] [2, 3, 4] [2, 3, 4] rfl (by simp only [go_sem, simprocAttr, hL, hX]; exact rfl) (by first | rfl | (simp only [go_sem, simprocAttr, hL, hX]; first | done | rfl)) (Ref.agg (RefL.cons (Ref.nil 2 ⟨Nat.le_of_ble_eq_true rfl, Nat.le_of_ble_eq_true rfl⟩) (RefL.cons (Ref.refl _) (RefL.cons (Ref.refl _) (RefL.cons (Ref.refl _) (RefL.cons (Ref.refl _) (RefL.cons (Ref.refl _) (RefL.cons (Ref.refl _) (RefL.cons (Ref.nil 3 ⟨Nat.le_of_ble_eq_true rfl, Nat.le_of_ble_eq_true rfl⟩) (RefL.cons (Ref.nil 4 ⟨Nat.le_of_ble_eq_true rfl, Nat.le_of_ble_eq_true rfl⟩) (RefL.cons (Ref.refl _) (RefL.same [])))))))))))) rfl (by decide) rfl rfl ?_ ?_
  all_goals try simp only [go_sem, simprocAttr, hL, hX]
  all_goals (rw [run_no c1] <;> rfl)
 ·intro c1 ρ hL
  refine awl_skip ?_
  revert ρ hL
  refine zSF [0, 2, 6, 7] (sat_impl_cloneState s hf) ?_
  refine zS [0, 2, 6, 7, 18] ?_
  refine zC ?_ ?_
  ·intro c2
   refine zS [6] ?_
   refine zK [2, 3, 4] [2, 3, 4] ?_ ?_
   all_goals try simp only [go_sem, simprocAttr, hX]
   all_goals (rw [run_long c1 (by omega)] <;> rfl)
  ·intro c2 ρ hL
   refine awl_skip ?_
   revert ρ hL
   refine zS [0, 6, 7, 20, 21, 22] ?_
   intro ρ hL
   have e1 := hL
   refine awl_loopH (fun H0 n σ G => ∃ (u : Stt) (i : Nat), n = ns.length - i ∧ (i ≤ ns.length) ∧ (u.fit) ∧ ((ns.take i).foldl (runOne l) s = u) ∧ (liveE [0, 6, 7, 20, 21] σ ρ ∧ σ 22 = .int .i64 (i : Int)) ∧ G = [⟨10, s.cells, true, false⟩, ⟨10, [.nilsl, .int .i64 0, .bool false, .int .i64 0, .int .i64 0, .int .i64 0, .int .i64 0, .nilsl, .nilsl, .int .i64 0], true, false⟩, ⟨6, rows u.regs, true, false⟩, ⟨6, rows u.mem.words, true, false⟩, ⟨1, rows u.mem.gone, true, false⟩, ⟨10, u.own 2 3 4, true, false⟩]) (fun H0 σ G => ∃ (u : Stt), (run l s ns = u) ∧ (liveE [6, 7] σ ρ) ∧ G = [⟨10, s.cells, true, false⟩, ⟨10, [.nilsl, .int .i64 0, .bool false, .int .i64 0, .int .i64 0, .int .i64 0, .int .i64 0, .nilsl, .nilsl, .int .i64 0], true, false⟩, ⟨6, rows u.regs, true, false⟩, ⟨6, rows u.mem.words, true, false⟩, ⟨1, rows u.mem.gone, true, false⟩, ⟨10, u.own 2 3 4, true, false⟩]) ((fun (u : Stt) (i : Nat) => ns.length - i) s  0) ?init1 (fun n ρ G hI => ?round1) (fun ρ G hJ => ?after1)
   case init1 => exact ⟨s, 0, rfl, (Nat.zero_le _), (hf), (rfl), ⟨liveE_refl _ _, (hL.2.2.2.2.2)⟩, rfl⟩
   case round1 =>
    clear hL
    obtain ⟨u, i, hn, i1_0, i1_1, i1_2, hL, hG⟩ := hI
    subst hG
    try simp only [go_sem, simprocAttr, e1, hX] at hL
    revert ρ hL
    refine zS [0, 6, 7, 20, 21, 22, 23] ?_
    refine zC ?_ ?_
    ·intro c3
     have hi1 : i < ns.length := by omega
     replace hX := And.intro hi1 hX
     intro ρ hL
     refine awl_skip (awl_seq (awl_block fun R1 hw1 hR1 => ?_))
     revert ρ hL
     refine zS [0, 6, 7, 9, 20, 21, 22] ?_
     refine zS [0, 6, 7, 9, 20, 21, 22, 27] ?_
     refine zC ?_ ?_
     ·intro c4
      refine zSF [0, 6, 7, 20, 21, 22] (sat_impl_Sweep u.mem (ns.getD i 0) i1_1.2) ?_
      intro ρ hL
      refine awl_nil (blk_normal (hR1 _ _ (.mk ?_)))
      have w1 : IntKind.i64.wrap ((i : Int) + 1) = ((i + 1 : Nat) : Int) := by rw [wrap64 (by omega)]; omega
      replace hX := And.intro w1 hX
      revert ρ hL
      refine zS [0, 6, 7, 20, 21, 22] ?_
      intro ρ hL
      refine awl_nil ?_
      refine loop_againW (Wk.keep [0, 1, 2, 6, 7, 5] rfl) _ ?meas ⟨(withMem u (sweep u.mem (ns.getD i 0))), (i + 1), rfl, (by omega), (by exact ⟨i1_1.1, sweep_fit i1_1.2⟩), (by rw [foldl_take hi1 i1_2, runOne_sweep (by omega)]), ⟨(by simp only [go_sem, simprocAttr, hL, hX, e1]), (by simp only [go_sem, simprocAttr, hL, hX, e1]; first | done | rfl)⟩, (by simp only [go_sem, simprocAttr, hL, hX, e1]; first | done | rfl)⟩
      case meas => subst hn; omega
     ·intro c4
      refine zSF [0, 6, 7, 20, 21, 22] (sat_impl_Step l u hl i1_1) ?_
      intro ρ hL
      refine awl_nil (blk_normal (hR1 _ _ (.mk ?_)))
      have w1 : IntKind.i64.wrap ((i : Int) + 1) = ((i + 1 : Nat) : Int) := by rw [wrap64 (by omega)]; omega
      replace hX := And.intro w1 hX
      revert ρ hL
      refine zS [0, 6, 7, 20, 21, 22] ?_
      intro ρ hL
      refine awl_nil ?_
      refine loop_againW (Wk.keep [0, 1, 6, 7, 8, 5] rfl) _ ?meas ⟨(step l u), (i + 1), rfl, (by omega), (by exact step_fit i1_1), (by rw [foldl_take hi1 i1_2, runOne_step (by omega)]), ⟨(by simp only [go_sem, simprocAttr, hL, hX, e1]), (by simp only [go_sem, simprocAttr, hL, hX, e1]; first | done | rfl)⟩, (by simp only [go_sem, simprocAttr, hL, hX, e1]; first | done | rfl)⟩
      case meas => subst hn; omega
    ·intro c3 ρ hL
     refine awl_exit (loop_break ?_)
     exact ⟨u, (by rw [run_go c1 (by omega), ← i1_2, List.take_of_length_le (by omega)]), (by simp only [go_sem, simprocAttr, hL, hX, e1]), rfl⟩
   case after1 =>
    clear hL
    obtain ⟨u, j1_0, hL, hG⟩ := hJ
    subst hG
    try simp only [go_sem, simprocAttr, e1, hX] at hL
    revert ρ hL
    refine zS [6] ?_
    refine zK [2, 3, 4] [2, 3, 4] ?_ ?_
    all_goals try simp only [go_sem, simprocAttr, hX]
    all_goals ((try clear hR1); rw [j1_0] <;> rfl)
end Go.Proofs.YtgpjgljgplngpaaGreatDoor.AM
