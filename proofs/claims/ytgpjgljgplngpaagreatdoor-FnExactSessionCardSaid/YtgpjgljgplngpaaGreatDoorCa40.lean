/- Settling. No conditions but those each theorem bears. -/
import Derived.Test.YtgpjgljgplngpaaGreatDoorFa
import Derived.Test.YtgpjgljgplngpaaGreatDoorM5
import Derived.Test.YtgpjgljgplngpaaGreatDoorCb6
import Derived.Test.YtgpjgljgplngpaaGreatDoorCb5
set_option linter.unusedSimpArgs false
set_option linter.unusedVariables false
namespace Go.Proofs.YtgpjgljgplngpaaGreatDoor.AM
open Go
set_option maxHeartbeats 8000000
set_option maxRecDepth 100000
theorem sat_spec_Settle (l : List Ins) (c : Cor) (hf : c.fit) : Sat Tryz.prog 48 [.sl l.length l.length (rows l), .agg c.cells] [] (.tuple [.agg ((settle c).1.own 0 1 2 3 4), .int .i64 (settle c).2]) (settle c).1.blks := by
 have hX := trivial
 refine sat_mk [.cell 4 36, .tmp 5] 0 52 Tryz.call48 Tryz.func48 Tryz.ntmps48 rfl rfl rfl rfl rfl ?_
 refine zI [1] ?_
 refine zS [3, 4] ?_
 refine zSF [3, 4, 14] (sat_spec_CoreOk c hf) ?_
 refine zC ?_ ?_
 ·intro c1
  refine zS [4, 5] ?_
  intro ρ hL
  refine awl_ret ?_
  refine retN (v := .tuple [.agg [.nilsl, .int .i64 0, .bool false, .int .i64 0, .int .i64 0, .int .i64 0, .int .i64 0, .nilsl, .nilsl, .int .i64 0, .nilsl, .int .i64 0, .bool false, .int .i64 0, .int .i64 0, .int .i64 0, .int .i64 0, .bool false, .nilsl], .int .i64 0]) [6, 6, 1, 40, 1] [2, 3, 4, 5, 6] [2, 3, 4, 5, 6] rfl (by simp only [go_sem, simprocAttr, hL, hX]; exact rfl) (by first | rfl | (simp only [go_sem, simprocAttr, hL, hX]; first | done | rfl)) (Ref.tuple (RefL.cons (Ref.agg (RefL.cons (Ref.nil 2 ⟨Nat.le_of_ble_eq_true rfl, Nat.le_of_ble_eq_true rfl⟩) (RefL.cons (Ref.refl _) (RefL.cons (Ref.refl _) (RefL.cons (Ref.refl _) (RefL.cons (Ref.refl _) (RefL.cons (Ref.refl _) (RefL.cons (Ref.refl _) (RefL.cons (Ref.nil 3 ⟨Nat.le_of_ble_eq_true rfl, Nat.le_of_ble_eq_true rfl⟩) (RefL.cons (Ref.nil 4 ⟨Nat.le_of_ble_eq_true rfl, Nat.le_of_ble_eq_true rfl⟩) (RefL.cons (Ref.refl _) (RefL.cons (Ref.nil 5 ⟨Nat.le_of_ble_eq_true rfl, Nat.le_of_ble_eq_true rfl⟩) (RefL.cons (Ref.refl _) (RefL.cons (Ref.refl _) (RefL.cons (Ref.refl _) (RefL.cons (Ref.refl _) (RefL.cons (Ref.refl _) (RefL.cons (Ref.refl _) (RefL.cons (Ref.refl _) (RefL.cons (Ref.nil 6 ⟨Nat.le_of_ble_eq_true rfl, Nat.le_of_ble_eq_true rfl⟩) (RefL.same []))))))))))))))))))))) (RefL.same _))) rfl (by decide) rfl rfl ?_ ?_
  all_goals try simp only [go_sem, simprocAttr, hL, hX]
  all_goals (rw [settle_no c1] <;> rfl)
 ·intro c1 ρ hL
  refine awl_skip ?_
  revert ρ hL
  refine zSF [4, 6] (sat_spec_l12Copy c hf) ?_
  refine zS [4, 6, 7] ?_
  refine zS [4, 6, 7, 8] ?_
  intro ρ hL
  have e1 := hL
  refine awl_loopH (fun H0 n σ G => ∃ (u : Cor) (k : Nat) (m : Int), n = 600 - k ∧ (k ≤ 600) ∧ (u.fit) ∧ (u.rob.length ≤ 6) ∧ (0 ≤ m) ∧ (m ≤ k) ∧ (settleGo (600 - k) u m = settleGo 600 c 0) ∧ (liveE [4, 6] σ ρ ∧ σ 7 = .int .i64 m ∧ σ 8 = .int .i64 (k : Int)) ∧ G = [⟨19, c.cells, true, false⟩, ⟨19, [.nilsl, .int .i64 0, .bool false, .int .i64 0, .int .i64 0, .int .i64 0, .int .i64 0, .nilsl, .nilsl, .int .i64 0, .nilsl, .int .i64 0, .bool false, .int .i64 0, .int .i64 0, .int .i64 0, .int .i64 0, .bool false, .nilsl], true, false⟩, ⟨6, rows u.s.regs, true, false⟩, ⟨6, rows u.s.mem.words, true, false⟩, ⟨1, rows u.s.mem.gone, true, false⟩, ⟨40, rows u.rob, true, false⟩, ⟨1, ints u.guesses, true, false⟩, ⟨19, u.own 2 3 4 5 6, true, false⟩]) (fun H0 σ G => ∃ (u : Cor) (m : Int), (settleGo 600 c 0 = (u, m)) ∧ (liveE [4, 6] σ ρ ∧ σ 7 = .int .i64 m) ∧ G = [⟨19, c.cells, true, false⟩, ⟨19, [.nilsl, .int .i64 0, .bool false, .int .i64 0, .int .i64 0, .int .i64 0, .int .i64 0, .nilsl, .nilsl, .int .i64 0, .nilsl, .int .i64 0, .bool false, .int .i64 0, .int .i64 0, .int .i64 0, .int .i64 0, .bool false, .nilsl], true, false⟩, ⟨6, rows u.s.regs, true, false⟩, ⟨6, rows u.s.mem.words, true, false⟩, ⟨1, rows u.s.mem.gone, true, false⟩, ⟨40, rows u.rob, true, false⟩, ⟨1, ints u.guesses, true, false⟩, ⟨19, u.own 2 3 4 5 6, true, false⟩]) ((fun (u : Cor) (k : Nat) (m : Int) => 600 - k) c  0  0) ?init1 (fun n ρ G hI => ?round1) (fun ρ G hJ => ?after1)
  case init1 => exact ⟨c, 0, 0, rfl, (Nat.zero_le _), (hf), ((corOk_parts c1).2.2.1), (Int.le_refl _), (Int.le_refl _), (rfl), ⟨liveE_refl _ _, (hL.2.2.1), (hL.2.2.2)⟩, rfl⟩
  case round1 =>
   clear hL
   obtain ⟨u, k, m, hn, i1_0, i1_1, i1_2, i1_3, i1_4, i1_5, hL, hG⟩ := hI
   subst hG
   try simp only [go_sem, simprocAttr, e1, hX] at hL
   refine zA ?_
   intro K hK
   refine zL [4, 6, 7, 8, 20] ?_
   clear hL
   intro ρ hL
   refine grp_andN (v := ?v1) 4 rfl [4, 6, 7, 8] hL.2.2.2.2 rfl (fun hb K1 hK1 => ?run) (fun hb => skA (want := true) (b := _) (by rw [hb]; rfl) hL.2.2.2.2 rfl) (fun ρ hP hM => ?_)
   case run => exact zR1
   refine zPp ?_
   clear hL hP hM
   intro hL
   refine zE [4, 6, 7, 8, 25] ?_
   clear hK K hL
   refine zC ?_ ?_
   ·intro c2 ρ hL
    refine awl_skip (awl_seq (awl_block fun R1 hw1 hR1 => ?_))
    revert ρ hL
    refine zS [4, 6, 7, 8, 9] ?_
    intro ρ hL
    have e2 := hL
    refine awl_loopH (fun H0 n σ G => ∃ (w : Cor) (i : Nat), n = 7 - i ∧ (i ≤ 7) ∧ (w.fit) ∧ (w.rob.length ≤ 6) ∧ (doAll (7 - i) i w = doAll 7 0 u) ∧ (liveE [4, 6, 7, 8] σ ρ ∧ σ 9 = .int .i64 (i : Int)) ∧ G = [⟨19, c.cells, true, false⟩, ⟨19, [.nilsl, .int .i64 0, .bool false, .int .i64 0, .int .i64 0, .int .i64 0, .int .i64 0, .nilsl, .nilsl, .int .i64 0, .nilsl, .int .i64 0, .bool false, .int .i64 0, .int .i64 0, .int .i64 0, .int .i64 0, .bool false, .nilsl], true, false⟩, ⟨6, rows w.s.regs, true, false⟩, ⟨6, rows w.s.mem.words, true, false⟩, ⟨1, rows w.s.mem.gone, true, false⟩, ⟨40, rows w.rob, true, false⟩, ⟨1, ints w.guesses, true, false⟩, ⟨19, w.own 2 3 4 5 6, true, false⟩]) (fun H0 σ G => ∃ (w : Cor), (w = doAll 7 0 u) ∧ (w.fit) ∧ (w.rob.length ≤ 6) ∧ (liveE [4, 6, 7, 8] σ ρ) ∧ G = [⟨19, c.cells, true, false⟩, ⟨19, [.nilsl, .int .i64 0, .bool false, .int .i64 0, .int .i64 0, .int .i64 0, .int .i64 0, .nilsl, .nilsl, .int .i64 0, .nilsl, .int .i64 0, .bool false, .int .i64 0, .int .i64 0, .int .i64 0, .int .i64 0, .bool false, .nilsl], true, false⟩, ⟨6, rows w.s.regs, true, false⟩, ⟨6, rows w.s.mem.words, true, false⟩, ⟨1, rows w.s.mem.gone, true, false⟩, ⟨40, rows w.rob, true, false⟩, ⟨1, ints w.guesses, true, false⟩, ⟨19, w.own 2 3 4 5 6, true, false⟩]) ((fun (w : Cor) (i : Nat) => 7 - i) u  0) ?init2 (fun n ρ G hI => ?round2) (fun ρ G hJ => ?after2)
    case init2 => exact ⟨u, 0, rfl, (Nat.zero_le _), (i1_1), (i1_2), (rfl), ⟨liveE_refl _ _, (hL.2.2.2.2)⟩, rfl⟩
    case round2 =>
     clear hL
     obtain ⟨w, i, hn, i2_0, i2_1, i2_2, i2_3, hL, hG⟩ := hI
     subst hG
     try simp only [go_sem, simprocAttr, e2, hX] at hL
     revert ρ hL
     refine zS [4, 6, 7, 8, 9, 32] ?_
     refine zC ?_ ?_
     ·intro c3 ρ hL
      refine awl_skip (awl_seq (awl_block fun R2 hw2 hR2 => ?_))
      revert ρ hL
      refine zSF [4, 6, 7, 8, 9] (sat_spec_Do w (i : Int) i2_1) ?_
      intro ρ hL
      refine awl_nil (blk_normal (hR2 _ _ (.mk ?_)))
      have wi : IntKind.i64.wrap ((i : Int) + 1) = ((i + 1 : Nat) : Int) := by rw [wrap64 (by omega)]; omega
      revert ρ hL
      refine zSX [4, 6, 7, 8, 9] (And.intro wi hX) ?_
      intro ρ hL
      refine awl_nil ?_
      refine loop_againW (Wk.keep [0, 1, 8, 9, 10, 11, 12, 7] rfl) _ ?meas ⟨(do_ w (i : Int)).1, (i + 1), rfl, (by omega), (by exact do_fit i2_1), (by exact Nat.le_trans do_len i2_2), (by rw [← i2_3, all_step (by omega) i2_2]), ⟨(by simp only [go_sem, simprocAttr, hL, hX, e2]), (by simp only [go_sem, simprocAttr, hL, hX, e2]; first | done | rfl)⟩, (by simp only [go_sem, simprocAttr, hL, hX, e2]; first | done | rfl)⟩
      case meas => subst hn; omega
     ·intro c3 ρ hL
      refine awl_exit (loop_break ?_)
      exact ⟨w, (by rw [← i2_3, all_stop (by omega)]), (by exact i2_1), (by exact i2_2), (by simp only [go_sem, simprocAttr, hL, hX, e2]), rfl⟩
    case after2 =>
     clear hL
     obtain ⟨w, j2_0, j2_1, j2_2, hL, hG⟩ := hJ
     subst hG
     try simp only [go_sem, simprocAttr, e2, hX] at hL
     revert ρ hL
     refine zSF [4, 6, 7, 8, 10, 11] (sat_spec_Commit w j2_1) ?_
     refine zS [4, 6, 7, 8, 11] ?_
     refine zS [4, 6, 7, 8, 47] ?_
     refine zC ?_ ?_
     ·intro c4
      have wm : IntKind.i64.wrap (m + 1) = m + 1 := wrap64 (by omega)
      refine zSX [4, 6, 7, 8] (And.intro wm hX) ?_
      intro ρ hL
      refine awl_nil (blk_normal (hR1 _ _ (.mk ?_)))
      have wk : IntKind.i64.wrap ((k : Int) + 1) = ((k + 1 : Nat) : Int) := by rw [wrap64 (by omega)]; omega
      revert ρ hL
      refine zSX [4, 6, 7, 8] (And.intro wk hX) ?_
      intro ρ hL
      refine awl_nil ?_
      refine loop_againW (Wk.keep [0, 1, 8, 9, 10, 11, 12, 7] rfl) _ ?meas ⟨(commit w).1, (k + 1), (m + 1), rfl, (by omega), (by exact commit_fit j2_1), (by exact Nat.le_trans commit_len j2_2), (by omega), (by omega), (by rw [← i1_5, set_on (by omega) (by omega) j2_0 c4]), ⟨(by simp only [go_sem, simprocAttr, hL, hX, e1]), (by simp only [go_sem, simprocAttr, hL, hX, e1]; first | done | rfl), (by simp only [go_sem, simprocAttr, hL, hX, e1]; first | done | rfl)⟩, (by simp only [go_sem, simprocAttr, hL, hX, e1]; first | done | rfl)⟩
      case meas => subst hn; omega
     ·intro c4 ρ hL
      refine awl_skip (awl_nil (blk_normal (hR1 _ _ (.mk ?_))))
      have wk : IntKind.i64.wrap ((k : Int) + 1) = ((k + 1 : Nat) : Int) := by rw [wrap64 (by omega)]; omega
      revert ρ hL
      refine zSX [4, 6, 7, 8] (And.intro wk hX) ?_
      intro ρ hL
      refine awl_nil ?_
      refine loop_againW (Wk.keep [0, 1, 8, 9, 10, 11, 12, 7] rfl) _ ?meas ⟨(commit w).1, (k + 1), m, rfl, (by omega), (by exact commit_fit j2_1), (by exact Nat.le_trans commit_len j2_2), (by omega), (by omega), (by rw [← i1_5, set_off (by omega) (by omega) j2_0 c4]), ⟨(by simp only [go_sem, simprocAttr, hL, hX, e1]), (by simp only [go_sem, simprocAttr, hL, hX, e1]; first | done | rfl), (by simp only [go_sem, simprocAttr, hL, hX, e1]; first | done | rfl)⟩, (by simp only [go_sem, simprocAttr, hL, hX, e1]; first | done | rfl)⟩
      case meas => subst hn; omega
   ·intro c2 ρ hL
    refine awl_exit (loop_break ?_)
    exact ⟨u, m, (by rw [← i1_5]; exact set_stop (by omega)), ⟨(by simp only [go_sem, simprocAttr, hL, hX, e1]), (hL.2.2.1)⟩, rfl⟩
  case after1 =>
   clear hL
   obtain ⟨u, m, j1_0, hL, hG⟩ := hJ
   subst hG
   try simp only [go_sem, simprocAttr, e1, hX] at hL
   revert ρ hL
   refine zS [4, 5] ?_
   refine zK [2, 3, 4, 5, 6] [2, 3, 4, 5, 6] ?_ ?_
   all_goals try simp only [go_sem, simprocAttr, hX]
   all_goals try clear hR1
   all_goals ((try clear hR2); rw [settle_go c1, j1_0] <;> rfl)
theorem sat_impl_Settle (l : List Ins) (c : Cor) (hf : c.fit) : Sat Tryz.prog 96 [.sl l.length l.length (rows l), .agg c.cells] [] (.tuple [.agg ((settle c).1.own 0 1 2 3 4), .int .i64 (settle c).2]) (settle c).1.blks := by
 have hX := trivial
 refine sat_mk [.cell 4 36, .tmp 5] 0 52 Tryz.call96 Tryz.func96 Tryz.ntmps96 rfl rfl rfl rfl rfl ?_
 refine zI [1] ?_
 refine zS [3, 4] ?_
 refine zSF [3, 4, 14] (sat_impl_CoreOk c hf) ?_
 refine zC ?_ ?_
 ·intro c1
  refine zS [4, 5] ?_
  intro ρ hL
  refine awl_ret ?_
  refine retN (v := .tuple [.agg [.nilsl, .int .i64 0, .bool false, .int .i64 0, .int .i64 0, .int .i64 0, .int .i64 0, .nilsl, .nilsl, .int .i64 0, .nilsl, .int .i64 0, .bool false, .int .i64 0, .int .i64 0, .int .i64 0, .int .i64 0, .bool false, .nilsl], .int .i64 0]) [6, 6, 1, 40, 1] [2, 3, 4, 5, 6] [2, 3, 4, 5, 6] rfl (by simp only [go_sem, simprocAttr, hL, hX]; exact rfl) (by first | rfl | (simp only [go_sem, simprocAttr, hL, hX]; first | done | rfl)) (Ref.tuple (RefL.cons (Ref.agg (RefL.cons (Ref.nil 2 ⟨Nat.le_of_ble_eq_true rfl, Nat.le_of_ble_eq_true rfl⟩) (RefL.cons (Ref.refl _) (RefL.cons (Ref.refl _) (RefL.cons (Ref.refl _) (RefL.cons (Ref.refl _) (RefL.cons (Ref.refl _) (RefL.cons (Ref.refl _) (RefL.cons (Ref.nil 3 ⟨Nat.le_of_ble_eq_true rfl, Nat.le_of_ble_eq_true rfl⟩) (RefL.cons (Ref.nil 4 ⟨Nat.le_of_ble_eq_true rfl, Nat.le_of_ble_eq_true rfl⟩) (RefL.cons (Ref.refl _) (RefL.cons (Ref.nil 5 ⟨Nat.le_of_ble_eq_true rfl, Nat.le_of_ble_eq_true rfl⟩) (RefL.cons (Ref.refl _) (RefL.cons (Ref.refl _) (RefL.cons (Ref.refl _) (RefL.cons (Ref.refl _) (RefL.cons (Ref.refl _) (RefL.cons (Ref.refl _) (RefL.cons (Ref.refl _) (RefL.cons (Ref.nil 6 ⟨Nat.le_of_ble_eq_true rfl, Nat.le_of_ble_eq_true rfl⟩) (RefL.same []))))))))))))))))))))) (RefL.same _))) rfl (by decide) rfl rfl ?_ ?_
  all_goals try simp only [go_sem, simprocAttr, hL, hX]
  all_goals (rw [settle_no c1] <;> rfl)
 ·intro c1 ρ hL
  refine awl_skip ?_
  revert ρ hL
  refine zSF [4, 6] (sat_impl_cloneCore c hf) ?_
  refine zS [4, 6, 7] ?_
  refine zS [4, 6, 7, 8] ?_
  intro ρ hL
  have e1 := hL
  refine awl_loopH (fun H0 n σ G => ∃ (u : Cor) (k : Nat) (m : Int), n = 600 - k ∧ (k ≤ 600) ∧ (u.fit) ∧ (u.rob.length ≤ 6) ∧ (0 ≤ m) ∧ (m ≤ k) ∧ (settleGo (600 - k) u m = settleGo 600 c 0) ∧ (liveE [4, 6] σ ρ ∧ σ 7 = .int .i64 m ∧ σ 8 = .int .i64 (k : Int)) ∧ G = [⟨19, c.cells, true, false⟩, ⟨19, [.nilsl, .int .i64 0, .bool false, .int .i64 0, .int .i64 0, .int .i64 0, .int .i64 0, .nilsl, .nilsl, .int .i64 0, .nilsl, .int .i64 0, .bool false, .int .i64 0, .int .i64 0, .int .i64 0, .int .i64 0, .bool false, .nilsl], true, false⟩, ⟨6, rows u.s.regs, true, false⟩, ⟨6, rows u.s.mem.words, true, false⟩, ⟨1, rows u.s.mem.gone, true, false⟩, ⟨40, rows u.rob, true, false⟩, ⟨1, ints u.guesses, true, false⟩, ⟨19, u.own 2 3 4 5 6, true, false⟩]) (fun H0 σ G => ∃ (u : Cor) (m : Int), (settleGo 600 c 0 = (u, m)) ∧ (liveE [4, 6] σ ρ ∧ σ 7 = .int .i64 m) ∧ G = [⟨19, c.cells, true, false⟩, ⟨19, [.nilsl, .int .i64 0, .bool false, .int .i64 0, .int .i64 0, .int .i64 0, .int .i64 0, .nilsl, .nilsl, .int .i64 0, .nilsl, .int .i64 0, .bool false, .int .i64 0, .int .i64 0, .int .i64 0, .int .i64 0, .bool false, .nilsl], true, false⟩, ⟨6, rows u.s.regs, true, false⟩, ⟨6, rows u.s.mem.words, true, false⟩, ⟨1, rows u.s.mem.gone, true, false⟩, ⟨40, rows u.rob, true, false⟩, ⟨1, ints u.guesses, true, false⟩, ⟨19, u.own 2 3 4 5 6, true, false⟩]) ((fun (u : Cor) (k : Nat) (m : Int) => 600 - k) c  0  0) ?init1 (fun n ρ G hI => ?round1) (fun ρ G hJ => ?after1)
  case init1 => exact ⟨c, 0, 0, rfl, (Nat.zero_le _), (hf), ((corOk_parts c1).2.2.1), (Int.le_refl _), (Int.le_refl _), (rfl), ⟨liveE_refl _ _, (hL.2.2.1), (hL.2.2.2)⟩, rfl⟩
  case round1 =>
   clear hL
   obtain ⟨u, k, m, hn, i1_0, i1_1, i1_2, i1_3, i1_4, i1_5, hL, hG⟩ := hI
   subst hG
   try simp only [go_sem, simprocAttr, e1, hX] at hL
   refine zA ?_
   intro K hK
   refine zL [4, 6, 7, 8, 20] ?_
   clear hL
   intro ρ hL
   refine grp_andN (v := ?v1) 4 rfl [4, 6, 7, 8] hL.2.2.2.2 rfl (fun hb K1 hK1 => ?run) (fun hb => skA (want := true) (b := _) (by rw [hb]; rfl) hL.2.2.2.2 rfl) (fun ρ hP hM => ?_)
   case run => exact zR1
   refine zPp ?_
   clear hL hP hM
   intro hL
   refine zE [4, 6, 7, 8, 25] ?_
   clear hK K hL
   refine zC ?_ ?_
   ·intro c2 ρ hL
    refine awl_skip (awl_seq (awl_block fun R1 hw1 hR1 => ?_))
    revert ρ hL
    refine zS [4, 6, 7, 8, 9] ?_
    intro ρ hL
    have e2 := hL
    refine awl_loopH (fun H0 n σ G => ∃ (w : Cor) (i : Nat), n = 7 - i ∧ (i ≤ 7) ∧ (w.fit) ∧ (w.rob.length ≤ 6) ∧ (doAll (7 - i) i w = doAll 7 0 u) ∧ (liveE [4, 6, 7, 8] σ ρ ∧ σ 9 = .int .i64 (i : Int)) ∧ G = [⟨19, c.cells, true, false⟩, ⟨19, [.nilsl, .int .i64 0, .bool false, .int .i64 0, .int .i64 0, .int .i64 0, .int .i64 0, .nilsl, .nilsl, .int .i64 0, .nilsl, .int .i64 0, .bool false, .int .i64 0, .int .i64 0, .int .i64 0, .int .i64 0, .bool false, .nilsl], true, false⟩, ⟨6, rows w.s.regs, true, false⟩, ⟨6, rows w.s.mem.words, true, false⟩, ⟨1, rows w.s.mem.gone, true, false⟩, ⟨40, rows w.rob, true, false⟩, ⟨1, ints w.guesses, true, false⟩, ⟨19, w.own 2 3 4 5 6, true, false⟩]) (fun H0 σ G => ∃ (w : Cor), (w = doAll 7 0 u) ∧ (w.fit) ∧ (w.rob.length ≤ 6) ∧ (liveE [4, 6, 7, 8] σ ρ) ∧ G = [⟨19, c.cells, true, false⟩, ⟨19, [.nilsl, .int .i64 0, .bool false, .int .i64 0, .int .i64 0, .int .i64 0, .int .i64 0, .nilsl, .nilsl, .int .i64 0, .nilsl, .int .i64 0, .bool false, .int .i64 0, .int .i64 0, .int .i64 0, .int .i64 0, .bool false, .nilsl], true, false⟩, ⟨6, rows w.s.regs, true, false⟩, ⟨6, rows w.s.mem.words, true, false⟩, ⟨1, rows w.s.mem.gone, true, false⟩, ⟨40, rows w.rob, true, false⟩, ⟨1, ints w.guesses, true, false⟩, ⟨19, w.own 2 3 4 5 6, true, false⟩]) ((fun (w : Cor) (i : Nat) => 7 - i) u  0) ?init2 (fun n ρ G hI => ?round2) (fun ρ G hJ => ?after2)
    case init2 => exact ⟨u, 0, rfl, (Nat.zero_le _), (i1_1), (i1_2), (rfl), ⟨liveE_refl _ _, (hL.2.2.2.2)⟩, rfl⟩
    case round2 =>
     clear hL
     obtain ⟨w, i, hn, i2_0, i2_1, i2_2, i2_3, hL, hG⟩ := hI
     subst hG
     try simp only [go_sem, simprocAttr, e2, hX] at hL
     revert ρ hL
     refine zS [4, 6, 7, 8, 9, 32] ?_
     refine zC ?_ ?_
     ·intro c3 ρ hL
      refine awl_skip (awl_seq (awl_block fun R2 hw2 hR2 => ?_))
      revert ρ hL
      refine zSF [4, 6, 7, 8, 9] (sat_impl_Do w (i : Int) i2_1) ?_
      intro ρ hL
      refine awl_nil (blk_normal (hR2 _ _ (.mk ?_)))
      have wi : IntKind.i64.wrap ((i : Int) + 1) = ((i + 1 : Nat) : Int) := by rw [wrap64 (by omega)]; omega
      revert ρ hL
      refine zSX [4, 6, 7, 8, 9] (And.intro wi hX) ?_
      intro ρ hL
      refine awl_nil ?_
      refine loop_againW (Wk.keep [0, 1, 8, 9, 10, 11, 12, 7] rfl) _ ?meas ⟨(do_ w (i : Int)).1, (i + 1), rfl, (by omega), (by exact do_fit i2_1), (by exact Nat.le_trans do_len i2_2), (by rw [← i2_3, all_step (by omega) i2_2]), ⟨(by simp only [go_sem, simprocAttr, hL, hX, e2]), (by simp only [go_sem, simprocAttr, hL, hX, e2]; first | done | rfl)⟩, (by simp only [go_sem, simprocAttr, hL, hX, e2]; first | done | rfl)⟩
      case meas => subst hn; omega
     ·intro c3 ρ hL
      refine awl_exit (loop_break ?_)
      exact ⟨w, (by rw [← i2_3, all_stop (by omega)]), (by exact i2_1), (by exact i2_2), (by simp only [go_sem, simprocAttr, hL, hX, e2]), rfl⟩
    case after2 =>
     clear hL
     obtain ⟨w, j2_0, j2_1, j2_2, hL, hG⟩ := hJ
     subst hG
     try simp only [go_sem, simprocAttr, e2, hX] at hL
     revert ρ hL
     refine zSF [4, 6, 7, 8, 10, 11] (sat_impl_Commit w j2_1) ?_
     refine zS [4, 6, 7, 8, 11] ?_
     refine zS [4, 6, 7, 8, 47] ?_
     refine zC ?_ ?_
     ·intro c4
      have wm : IntKind.i64.wrap (m + 1) = m + 1 := wrap64 (by omega)
      refine zSX [4, 6, 7, 8] (And.intro wm hX) ?_
      intro ρ hL
      refine awl_nil (blk_normal (hR1 _ _ (.mk ?_)))
      have wk : IntKind.i64.wrap ((k : Int) + 1) = ((k + 1 : Nat) : Int) := by rw [wrap64 (by omega)]; omega
      revert ρ hL
      refine zSX [4, 6, 7, 8] (And.intro wk hX) ?_
      intro ρ hL
      refine awl_nil ?_
      refine loop_againW (Wk.keep [0, 1, 8, 9, 10, 11, 12, 7] rfl) _ ?meas ⟨(commit w).1, (k + 1), (m + 1), rfl, (by omega), (by exact commit_fit j2_1), (by exact Nat.le_trans commit_len j2_2), (by omega), (by omega), (by rw [← i1_5, set_on (by omega) (by omega) j2_0 c4]), ⟨(by simp only [go_sem, simprocAttr, hL, hX, e1]), (by simp only [go_sem, simprocAttr, hL, hX, e1]; first | done | rfl), (by simp only [go_sem, simprocAttr, hL, hX, e1]; first | done | rfl)⟩, (by simp only [go_sem, simprocAttr, hL, hX, e1]; first | done | rfl)⟩
      case meas => subst hn; omega
     ·intro c4 ρ hL
      refine awl_skip (awl_nil (blk_normal (hR1 _ _ (.mk ?_))))
      have wk : IntKind.i64.wrap ((k : Int) + 1) = ((k + 1 : Nat) : Int) := by rw [wrap64 (by omega)]; omega
      revert ρ hL
      refine zSX [4, 6, 7, 8] (And.intro wk hX) ?_
      intro ρ hL
      refine awl_nil ?_
      refine loop_againW (Wk.keep [0, 1, 8, 9, 10, 11, 12, 7] rfl) _ ?meas ⟨(commit w).1, (k + 1), m, rfl, (by omega), (by exact commit_fit j2_1), (by exact Nat.le_trans commit_len j2_2), (by omega), (by omega), (by rw [← i1_5, set_off (by omega) (by omega) j2_0 c4]), ⟨(by simp only [go_sem, simprocAttr, hL, hX, e1]), (by simp only [go_sem, simprocAttr, hL, hX, e1]; first | done | rfl), (by simp only [go_sem, simprocAttr, hL, hX, e1]; first | done | rfl)⟩, (by simp only [go_sem, simprocAttr, hL, hX, e1]; first | done | rfl)⟩
      case meas => subst hn; omega
   ·intro c2 ρ hL
    refine awl_exit (loop_break ?_)
    exact ⟨u, m, (by rw [← i1_5]; exact set_stop (by omega)), ⟨(by simp only [go_sem, simprocAttr, hL, hX, e1]), (hL.2.2.1)⟩, rfl⟩
  case after1 =>
   clear hL
   obtain ⟨u, m, j1_0, hL, hG⟩ := hJ
   subst hG
   try simp only [go_sem, simprocAttr, e1, hX] at hL
   revert ρ hL
   refine zS [4, 5] ?_
   refine zK [2, 3, 4, 5, 6] [2, 3, 4, 5, 6] ?_ ?_
   all_goals try simp only [go_sem, simprocAttr, hX]
   all_goals try clear hR1
   all_goals ((try clear hR2); rw [settle_go c1, j1_0] <;> rfl)
end Go.Proofs.YtgpjgljgplngpaaGreatDoor.AM
