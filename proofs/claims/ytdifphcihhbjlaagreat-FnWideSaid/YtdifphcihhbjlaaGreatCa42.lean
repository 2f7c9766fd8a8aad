/- Out of order. No conditions but those each theorem bears. -/
import Derived.Test.YtdifphcihhbjlaaGreatFa
import Derived.Test.YtdifphcihhbjlaaGreatM5
import Derived.Test.YtdifphcihhbjlaaGreatCa40
import Derived.Test.YtdifphcihhbjlaaGreatCb5
import Derived.Test.YtdifphcihhbjlaaGreatCb2
set_option linter.unusedSimpArgs false
set_option linter.unusedVariables false
namespace Go.Proofs.YtdifphcihhbjlaaGreat.AM
open Go
set_option maxHeartbeats 8000000
set_option maxRecDepth 100000

theorem sat_spec_OutOrder (l : List Ins) (s : Stt) (a : Int) (b : Int) (hl : l.length ≤ 1048576) (hf : s.fit) : Sat Tryz.prog 54 [.sl l.length l.length (rows l), .agg s.cells, .int .i64 a, .int .i64 b] [] (.tuple [.agg ((outOrder l s a b).1.own 0 1 2), .int .i64 (outOrder l s a b).2]) (outOrder l s a b).1.blks := by
 have hX := trivial
 refine sat_mk [.cell 8 33, .tmp 9] 0 61 Tryz.call54 Tryz.func54 Tryz.ntmps54 rfl rfl rfl rfl rfl ?_
 refine zI [0, 1, 2, 3] ?_
 refine zS [0, 2, 3, 5, 8] ?_
 refine zSF [0, 2, 3, 5, 8, 18] (sat_spec_StateOk s hf) ?_
 refine zC ?_ ?_
 · intro c1
   refine zS [8, 9] ?_
   intro ρ hL
   refine awl_ret ?_
   refine retN (v := .tuple [.agg [.nilsl, .int .i64 0, .bool false, .int .i64 0, .int .i64 0, .int .i64 0, .int .i64 0, .nilsl, .nilsl, .int .i64 0], .int .i64 0]) [6, 6, 1] [2, 3, 4] [2, 3, 4] rfl (by simp only [go_sem, simprocAttr, hL, hX]; exact rfl) (by first | rfl | (simp only [go_sem, simprocAttr, hL, hX]; first | done | rfl)) (Ref.tuple (RefL.cons (Ref.agg (RefL.cons (Ref.nil 2 ⟨Nat.le_of_ble_eq_true rfl, Nat.le_of_ble_eq_true rfl⟩) (RefL.cons (Ref.refl _) (RefL.cons (Ref.refl _) (RefL.cons (Ref.refl _) (RefL.cons (Ref.refl _) (RefL.cons (Ref.refl _) (RefL.cons (Ref.refl _) (RefL.cons (Ref.nil 3 ⟨Nat.le_of_ble_eq_true rfl, Nat.le_of_ble_eq_true rfl⟩) (RefL.cons (Ref.nil 4 ⟨Nat.le_of_ble_eq_true rfl, Nat.le_of_ble_eq_true rfl⟩) (RefL.cons (Ref.refl _) (RefL.same [])))))))))))) (RefL.same _))) rfl (by decide) rfl rfl ?_ ?_
   all_goals try simp only [go_sem, simprocAttr, hL, hX]
   all_goals (rw [outO_no c1] <;> rfl)
 · intro c1
   intro ρ hL
   refine awl_skip ?_
   revert ρ hL
   refine zSF [0, 2, 3, 5, 8, 22] (sat_spec_l1In _ _ _) ?_
   intro ρ hL
   have j1 := hL
   refine awl_joinH (fun H0 σ G => (liveE [0, 3, 5, 8] σ ρ ∧ σ 2 = .int .i64 (wid a)) ∧ G = H0) ?inner1 (fun ρ G hJ => ?after1)
   case inner1 =>
    refine zN [0, 2, 3, 5, 8, 22] ?_
    clear hL
    refine zC ?_ ?_
    · intro c2
      refine zS [0, 2, 3, 5, 8] ?_
      intro ρ hL
      refine awl_nil ?_
      show wkQ _ _ _ _
      refine .mk ⟨⟨(by simp only [go_sem, simprocAttr, hL, hX, j1]), (by rw [hL.2.1]; first | (rw [wid, if_pos c2]; done) | (rw [wid, if_neg (by rw [c2]; exact Bool.noConfusion)]; done))⟩, rfl⟩
    · intro c2
      intro ρ hL
      refine awl_skip ?_
      refine awl_nil ?_
      show wkQ _ _ _ _
      refine .mk ⟨⟨(by simp only [go_sem, simprocAttr, hL, hX, j1]), (by rw [hL.2.1]; first | (rw [wid, if_pos c2]; done) | (rw [wid, if_neg (by rw [c2]; exact Bool.noConfusion)]; done))⟩, rfl⟩
   case after1 =>
    clear hL
    obtain ⟨hL, hG⟩ := hJ
    subst hG
    try simp only [go_sem, simprocAttr, j1, hX] at hL
    have hw := wid_eq (w := a)
    revert ρ hL
    refine zSF [0, 2, 3, 8, 10] (sat_spec_CoreNew s hf) ?_
    refine zS [0, 2, 3, 8, 10, 11] ?_
    refine zS [0, 2, 3, 8, 10, 11, 12] ?_
    intro ρ hL
    have e2 := hL
    refine awl_loopH (fun H0 n σ G => ∃ (u : Cor) (k : Nat) (m : Int), n = (min b 600).toNat - k ∧ (k ≤ (min b 600).toNat) ∧ (u.fit) ∧ (0 ≤ m) ∧ (m ≤ 600 * (k : Int)) ∧ (outGo l (widN a) ((min b 600).toNat - k) u m = outGo l (widN a) (min b 600).toNat (corNew s) 0) ∧ (liveE [0, 2, 3, 8, 10] σ ρ ∧ σ 11 = .int .i64 m ∧ σ 12 = .int .i64 (k : Int)) ∧ G = [⟨10, s.cells, true, false⟩, ⟨10, [.nilsl, .int .i64 0, .bool false, .int .i64 0, .int .i64 0, .int .i64 0, .int .i64 0, .nilsl, .nilsl, .int .i64 0], true, false⟩, ⟨6, rows u.s.regs, true, false⟩, ⟨6, rows u.s.mem.words, true, false⟩, ⟨1, rows u.s.mem.gone, true, false⟩, ⟨40, rows u.rob, true, false⟩, ⟨1, ints u.guesses, true, false⟩, ⟨19, u.own 2 3 4 5 6, true, false⟩]) (fun H0 σ G => ∃ (u : Cor) (m : Int), (outGo l (widN a) (min b 600).toNat (corNew s) 0 = (u, m)) ∧ (liveE [8, 10] σ ρ ∧ σ 11 = .int .i64 m) ∧ G = [⟨10, s.cells, true, false⟩, ⟨10, [.nilsl, .int .i64 0, .bool false, .int .i64 0, .int .i64 0, .int .i64 0, .int .i64 0, .nilsl, .nilsl, .int .i64 0], true, false⟩, ⟨6, rows u.s.regs, true, false⟩, ⟨6, rows u.s.mem.words, true, false⟩, ⟨1, rows u.s.mem.gone, true, false⟩, ⟨40, rows u.rob, true, false⟩, ⟨1, ints u.guesses, true, false⟩, ⟨19, u.own 2 3 4 5 6, true, false⟩]) ((fun (u : Cor) (k : Nat) (m : Int) => (min b 600).toNat - k) (corNew s)  0  0) ?init2 (fun n ρ G hI => ?round2) (fun ρ G hJ => ?after2)
    case init2 => exact ⟨(corNew s), 0, 0, rfl, (Nat.zero_le _), (corNew_fit hf), (Int.le_refl _), (by simp), (rfl), ⟨liveE_refl _ _, (hL.2.2.2.2.2.1), (hL.2.2.2.2.2.2)⟩, rfl⟩
    case round2 =>
     clear hL
     obtain ⟨u, k, m, hn, i2_0, i2_1, i2_2, i2_3, i2_4, hL, hG⟩ := hI
     subst hG
     try simp only [go_sem, simprocAttr, e2, hX] at hL
     refine zA ?_
     intro K hK
     refine zF (sat_spec_l1Min _ _) ?_
     refine zL [0, 2, 3, 8, 10, 11, 12, 29] ?_
     clear hL
     intro ρ hL
     refine grp_andN (tc := 29) (tv := 33) (td := 34) (v := ?v1) 4 rfl [0, 2, 3, 8, 10, 11, 12] hL.2.2.2.2.2.2.2 rfl (fun hb K1 hK1 => ?run) (fun hb => ?skip) (fun ρ hP hM => ?_)
     case skip => exact skA (want := true) (b := _) (by rw [hb]; rfl) hL.2.2.2.2.2.2.2 rfl
     case run =>
      simp only [List.take_succ_cons, List.take_zero]
      rw [hb] at hL
      try simp only [go_sem, simprocAttr, hL, hX]
      repeat' refine And.intro (by first | rfl | omega | (simp; done)) ?_
      refine hK1 _ ?_ ?_ ?_ <;> simp only [go_sem, simprocAttr, hL, hX] <;> exact rfl
     simp only [List.drop_succ_cons, List.drop_zero]
     try simp only [go_sem, simprocAttr, hL, hX] at hM
     replace hL := And.intro hP hM
     clear hP hM
     try simp only [go_sem, simprocAttr, hL, hX]
     repeat' refine And.intro (by first | rfl | omega | (simp; done)) ?_
     refine zE [0, 2, 3, 8, 10, 11, 12, 34] ?_
     clear hK K hL
     refine zC ?_ ?_
     · intro c3
       intro ρ hL
       refine awl_skip ?_
       refine awl_seq ?_
       refine awl_block fun R1 hw1 hR1 => ?_
       revert ρ hL
       refine zS [0, 2, 3, 8, 10, 11, 12, 13] ?_
       intro ρ hL
       have e3 := hL
       refine awl_loopH (fun H0 n σ G => ∃ (v : Cor) (i : Nat), n = widN a - i ∧ (i ≤ widN a) ∧ (v.fit) ∧ (pulls l (widN a - i) v = pulls l (widN a) u) ∧ (liveE [0, 2, 3, 8, 10, 11, 12] σ ρ ∧ σ 13 = .int .i64 (i : Int)) ∧ G = [⟨10, s.cells, true, false⟩, ⟨10, [.nilsl, .int .i64 0, .bool false, .int .i64 0, .int .i64 0, .int .i64 0, .int .i64 0, .nilsl, .nilsl, .int .i64 0], true, false⟩, ⟨6, rows v.s.regs, true, false⟩, ⟨6, rows v.s.mem.words, true, false⟩, ⟨1, rows v.s.mem.gone, true, false⟩, ⟨40, rows v.rob, true, false⟩, ⟨1, ints v.guesses, true, false⟩, ⟨19, v.own 2 3 4 5 6, true, false⟩]) (fun H0 σ G => ∃ (v : Cor), (v = pulls l (widN a) u) ∧ (v.fit) ∧ (liveE [0, 2, 3, 8, 10, 11, 12] σ ρ) ∧ G = [⟨10, s.cells, true, false⟩, ⟨10, [.nilsl, .int .i64 0, .bool false, .int .i64 0, .int .i64 0, .int .i64 0, .int .i64 0, .nilsl, .nilsl, .int .i64 0], true, false⟩, ⟨6, rows v.s.regs, true, false⟩, ⟨6, rows v.s.mem.words, true, false⟩, ⟨1, rows v.s.mem.gone, true, false⟩, ⟨40, rows v.rob, true, false⟩, ⟨1, ints v.guesses, true, false⟩, ⟨19, v.own 2 3 4 5 6, true, false⟩]) ((fun (v : Cor) (i : Nat) => widN a - i) u  0) ?init3 (fun n ρ G hI => ?round3) (fun ρ G hJ => ?after3)
       case init3 => exact ⟨u, 0, rfl, (Nat.zero_le _), (i2_1), (rfl), ⟨liveE_refl _ _, (hL.2.2.2.2.2.2.2)⟩, rfl⟩
       case round3 =>
        clear hL
        obtain ⟨v, i, hn, i3_0, i3_1, i3_2, hL, hG⟩ := hI
        subst hG
        try simp only [go_sem, simprocAttr, e3, hX] at hL
        revert ρ hL
        refine zS [0, 2, 3, 8, 10, 11, 12, 13, 39] ?_
        refine zC ?_ ?_
        · intro c4
          intro ρ hL
          refine awl_skip ?_
          refine awl_seq ?_
          refine awl_block fun R2 hw2 hR2 => ?_
          revert ρ hL
          refine zSF [0, 2, 3, 8, 10, 11, 12, 13] (sat_spec_Pull l v hl i3_1) ?_
          intro ρ hL
          refine awl_nil ?_
          refine blk_normal (hR2 _ _ (.mk ?_))
          have wi : IntKind.i64.wrap ((i : Int) + 1) = ((i + 1 : Nat) : Int) := by rw [wrap64 (by omega)]; omega
          have hX0 := hX
          replace hX := And.intro wi hX
          revert ρ hL
          refine zS [0, 2, 3, 8, 10, 11, 12, 13] ?_
          clear hX
          have hX := hX0
          clear hX0
          intro ρ hL
          refine awl_nil ?_
          refine loop_againW (Wk.keep [0, 1, 8, 9, 10, 11, 12, 7] rfl) _ ?meas ⟨(pull l v).1, (i + 1), rfl, (by omega), (by exact pull_fit i3_1), (by rw [← i3_2, pulls_step (u := v) (i := i) (W := widN a) (by omega)]), ⟨(by simp only [go_sem, simprocAttr, hL, hX, e3]), (by simp only [go_sem, simprocAttr, hL, hX, e3]; first | done | rfl)⟩, (by simp only [go_sem, simprocAttr, hL, hX, e3]; first | done | rfl)⟩
          case meas => subst hn; omega
        · intro c4
          intro ρ hL
          refine awl_exit ?_
          refine loop_break ?_
          exact ⟨v, (by rw [← i3_2, pulls_stop (by omega)]), (by exact i3_1), (by simp only [go_sem, simprocAttr, hL, hX, e3]), rfl⟩
       case after3 =>
        clear hL
        obtain ⟨v, j3_0, j3_1, hL, hG⟩ := hJ
        subst hG
        try simp only [go_sem, simprocAttr, e3, hX] at hL
        revert ρ hL
        refine zSF [0, 2, 3, 8, 10, 11, 12, 14, 15] (sat_spec_Settle l v j3_1) ?_
        refine zS [0, 2, 3, 8, 10, 11, 12, 15] ?_
        have hsm := settle_many (c := v)
        have wm : IntKind.i64.wrap (m + (settle v).2) = m + (settle v).2 := wrap64 (by omega)
        have hX0 := hX
        replace hX := And.intro wm hX
        refine zS [0, 2, 3, 8, 10, 11, 12] ?_
        clear hX
        have hX := hX0
        clear hX0
        intro ρ hL
        refine awl_nil ?_
        refine blk_normal (hR1 _ _ (.mk ?_))
        have wk : IntKind.i64.wrap ((k : Int) + 1) = ((k + 1 : Nat) : Int) := by rw [wrap64 (by omega)]; omega
        have hX0 := hX
        replace hX := And.intro wk hX
        revert ρ hL
        refine zS [0, 2, 3, 8, 10, 11, 12] ?_
        clear hX
        have hX := hX0
        clear hX0
        intro ρ hL
        refine awl_nil ?_
        refine loop_againW (Wk.keep [0, 1, 8, 9, 10, 11, 12, 7] rfl) _ ?meas ⟨(settle v).1, (k + 1), (m + (settle v).2), rfl, (by omega), (by exact settle_fit j3_1), (by omega), (by omega), (by rw [← i2_4, out_step (by omega) c3.2 j3_0]), ⟨(by simp only [go_sem, simprocAttr, hL, hX, e2]), (by simp only [go_sem, simprocAttr, hL, hX, e2]; first | done | rfl), (by simp only [go_sem, simprocAttr, hL, hX, e2]; first | done | rfl)⟩, (by simp only [go_sem, simprocAttr, hL, hX, e2]; first | done | rfl)⟩
        case meas => subst hn; omega
     · intro c3
       intro ρ hL
       refine awl_exit ?_
       refine loop_break ?_
       exact ⟨u, m, (by rw [← i2_4]; exact out_stop (by rcases c3 with c3 | c3; exact Or.inl (by omega); exact Or.inr c3)), ⟨(by simp only [go_sem, simprocAttr, hL, hX, e2]), (hL.2.2.2.2.2.1)⟩, rfl⟩
    case after2 =>
     clear hL
     obtain ⟨u, m, j2_0, hL, hG⟩ := hJ
     subst hG
     try simp only [go_sem, simprocAttr, e2, hX] at hL
     revert ρ hL
     refine zS [8, 9] ?_
     refine zK [2, 3, 4] [2, 3, 4] ?_ ?_
     all_goals try simp only [go_sem, simprocAttr, hX]
     all_goals try clear hR1
     all_goals try clear hR2
     all_goals (rw [outO_go c1, j2_0] <;> rfl)
theorem sat_impl_OutOrder (l : List Ins) (s : Stt) (a : Int) (b : Int) (hl : l.length ≤ 1048576) (hf : s.fit) : Sat Tryz.prog 53 [.sl l.length l.length (rows l), .agg s.cells, .int .i64 a, .int .i64 b] [] (.tuple [.agg ((outOrder l s a b).1.own 0 1 2), .int .i64 (outOrder l s a b).2]) (outOrder l s a b).1.blks := by
 have hX := trivial
 refine sat_mk [.cell 8 33, .tmp 9] 0 59 Tryz.call53 Tryz.func53 Tryz.ntmps53 rfl rfl rfl rfl rfl ?_
 refine zI [0, 1, 2, 3] ?_
 refine zS [0, 2, 3, 5, 8] ?_
 refine zSF [0, 2, 3, 5, 8, 17] (sat_impl_StateOk s hf) ?_
 refine zC ?_ ?_
 · intro c1
   refine zS [8, 9] ?_
   intro ρ hL
   refine awl_ret ?_
   refine retN (v := .tuple [.agg [.nilsl, .int .i64 0, .bool false, .int .i64 0, .int .i64 0, .int .i64 0, .int .i64 0, .nilsl, .nilsl, .int .i64 0], .int .i64 0]) [6, 6, 1] [2, 3, 4] [2, 3, 4] rfl (by simp only [go_sem, simprocAttr, hL, hX]; exact rfl) (by first | rfl | (simp only [go_sem, simprocAttr, hL, hX]; first | done | rfl)) (Ref.tuple (RefL.cons (Ref.agg (RefL.cons (Ref.nil 2 ⟨Nat.le_of_ble_eq_true rfl, Nat.le_of_ble_eq_true rfl⟩) (RefL.cons (Ref.refl _) (RefL.cons (Ref.refl _) (RefL.cons (Ref.refl _) (RefL.cons (Ref.refl _) (RefL.cons (Ref.refl _) (RefL.cons (Ref.refl _) (RefL.cons (Ref.nil 3 ⟨Nat.le_of_ble_eq_true rfl, Nat.le_of_ble_eq_true rfl⟩) (RefL.cons (Ref.nil 4 ⟨Nat.le_of_ble_eq_true rfl, Nat.le_of_ble_eq_true rfl⟩) (RefL.cons (Ref.refl _) (RefL.same [])))))))))))) (RefL.same _))) rfl (by decide) rfl rfl ?_ ?_
   all_goals try simp only [go_sem, simprocAttr, hL, hX]
   all_goals (rw [outO_no c1] <;> rfl)
 · intro c1
   intro ρ hL
   refine awl_skip ?_
   revert ρ hL
   refine zSF [0, 2, 3, 5, 8, 21] (sat_impl_in _ _ _) ?_
   intro ρ hL
   have j1 := hL
   refine awl_joinH (fun H0 σ G => (liveE [0, 3, 5, 8] σ ρ ∧ σ 2 = .int .i64 (wid a)) ∧ G = H0) ?inner1 (fun ρ G hJ => ?after1)
   case inner1 =>
    refine zN [0, 2, 3, 5, 8, 21] ?_
    clear hL
    refine zC ?_ ?_
    · intro c2
      refine zS [0, 2, 3, 5, 8] ?_
      intro ρ hL
      refine awl_nil ?_
      show wkQ _ _ _ _
      refine .mk ⟨⟨(by simp only [go_sem, simprocAttr, hL, hX, j1]), (by rw [hL.2.1]; first | (rw [wid, if_pos c2]; done) | (rw [wid, if_neg (by rw [c2]; exact Bool.noConfusion)]; done))⟩, rfl⟩
    · intro c2
      intro ρ hL
      refine awl_skip ?_
      refine awl_nil ?_
      show wkQ _ _ _ _
      refine .mk ⟨⟨(by simp only [go_sem, simprocAttr, hL, hX, j1]), (by rw [hL.2.1]; first | (rw [wid, if_pos c2]; done) | (rw [wid, if_neg (by rw [c2]; exact Bool.noConfusion)]; done))⟩, rfl⟩
   case after1 =>
    clear hL
    obtain ⟨hL, hG⟩ := hJ
    subst hG
    try simp only [go_sem, simprocAttr, j1, hX] at hL
    have hw := wid_eq (w := a)
    revert ρ hL
    refine zSF [0, 2, 3, 8, 10] (sat_impl_CoreNew s hf) ?_
    refine zS [0, 2, 3, 8, 10, 11] ?_
    refine zS [0, 2, 3, 8, 10, 11, 12] ?_
    intro ρ hL
    have e2 := hL
    refine awl_loopH (fun H0 n σ G => ∃ (u : Cor) (k : Nat) (m : Int), n = (min b 600).toNat - k ∧ (k ≤ (min b 600).toNat) ∧ (u.fit) ∧ (0 ≤ m) ∧ (m ≤ 600 * (k : Int)) ∧ (outGo l (widN a) ((min b 600).toNat - k) u m = outGo l (widN a) (min b 600).toNat (corNew s) 0) ∧ (liveE [0, 2, 3, 8, 10] σ ρ ∧ σ 11 = .int .i64 m ∧ σ 12 = .int .i64 (k : Int)) ∧ G = [⟨10, s.cells, true, false⟩, ⟨10, [.nilsl, .int .i64 0, .bool false, .int .i64 0, .int .i64 0, .int .i64 0, .int .i64 0, .nilsl, .nilsl, .int .i64 0], true, false⟩, ⟨6, rows u.s.regs, true, false⟩, ⟨6, rows u.s.mem.words, true, false⟩, ⟨1, rows u.s.mem.gone, true, false⟩, ⟨40, rows u.rob, true, false⟩, ⟨1, ints u.guesses, true, false⟩, ⟨19, u.own 2 3 4 5 6, true, false⟩]) (fun H0 σ G => ∃ (u : Cor) (m : Int), (outGo l (widN a) (min b 600).toNat (corNew s) 0 = (u, m)) ∧ (liveE [8, 10] σ ρ ∧ σ 11 = .int .i64 m) ∧ G = [⟨10, s.cells, true, false⟩, ⟨10, [.nilsl, .int .i64 0, .bool false, .int .i64 0, .int .i64 0, .int .i64 0, .int .i64 0, .nilsl, .nilsl, .int .i64 0], true, false⟩, ⟨6, rows u.s.regs, true, false⟩, ⟨6, rows u.s.mem.words, true, false⟩, ⟨1, rows u.s.mem.gone, true, false⟩, ⟨40, rows u.rob, true, false⟩, ⟨1, ints u.guesses, true, false⟩, ⟨19, u.own 2 3 4 5 6, true, false⟩]) ((fun (u : Cor) (k : Nat) (m : Int) => (min b 600).toNat - k) (corNew s)  0  0) ?init2 (fun n ρ G hI => ?round2) (fun ρ G hJ => ?after2)
    case init2 => exact ⟨(corNew s), 0, 0, rfl, (Nat.zero_le _), (corNew_fit hf), (Int.le_refl _), (by simp), (rfl), ⟨liveE_refl _ _, (hL.2.2.2.2.2.1), (hL.2.2.2.2.2.2)⟩, rfl⟩
    case round2 =>
     clear hL
     obtain ⟨u, k, m, hn, i2_0, i2_1, i2_2, i2_3, i2_4, hL, hG⟩ := hI
     subst hG
     try simp only [go_sem, simprocAttr, e2, hX] at hL
     refine zA ?_
     intro K hK
     refine zL [0, 2, 3, 8, 10, 11, 12, 28] ?_
     clear hL
     intro ρ hL
     refine grp_andN (tc := 28) (tv := 32) (td := 33) (v := ?v1) 4 rfl [0, 2, 3, 8, 10, 11, 12] hL.2.2.2.2.2.2.2 rfl (fun hb K1 hK1 => ?run) (fun hb => ?skip) (fun ρ hP hM => ?_)
     case skip => exact skA (want := true) (b := _) (by rw [hb]; rfl) hL.2.2.2.2.2.2.2 rfl
     case run =>
      simp only [List.take_succ_cons, List.take_zero]
      rw [hb] at hL
      try simp only [go_sem, simprocAttr, hL, hX]
      repeat' refine And.intro (by first | rfl | omega | (simp; done)) ?_
      refine hK1 _ ?_ ?_ ?_ <;> simp only [go_sem, simprocAttr, hL, hX] <;> exact rfl
     simp only [List.drop_succ_cons, List.drop_zero]
     try simp only [go_sem, simprocAttr, hL, hX] at hM
     replace hL := And.intro hP hM
     clear hP hM
     try simp only [go_sem, simprocAttr, hL, hX]
     repeat' refine And.intro (by first | rfl | omega | (simp; done)) ?_
     refine zE [0, 2, 3, 8, 10, 11, 12, 33] ?_
     clear hK K hL
     refine zC ?_ ?_
     · intro c3
       intro ρ hL
       refine awl_skip ?_
       refine awl_seq ?_
       refine awl_block fun R1 hw1 hR1 => ?_
       revert ρ hL
       refine zS [0, 2, 3, 8, 10, 11, 12, 36, 37] ?_
       intro ρ hL
       have e3 := hL
       refine awl_loopH (fun H0 n σ G => ∃ (v : Cor) (i : Nat), n = widN a - i ∧ (i ≤ widN a) ∧ (v.fit) ∧ (pulls l (widN a - i) v = pulls l (widN a) u) ∧ (liveE [0, 2, 3, 8, 10, 11, 12, 36] σ ρ ∧ σ 37 = .int .i64 (i : Int)) ∧ G = [⟨10, s.cells, true, false⟩, ⟨10, [.nilsl, .int .i64 0, .bool false, .int .i64 0, .int .i64 0, .int .i64 0, .int .i64 0, .nilsl, .nilsl, .int .i64 0], true, false⟩, ⟨6, rows v.s.regs, true, false⟩, ⟨6, rows v.s.mem.words, true, false⟩, ⟨1, rows v.s.mem.gone, true, false⟩, ⟨40, rows v.rob, true, false⟩, ⟨1, ints v.guesses, true, false⟩, ⟨19, v.own 2 3 4 5 6, true, false⟩]) (fun H0 σ G => ∃ (v : Cor), (v = pulls l (widN a) u) ∧ (v.fit) ∧ (liveE [0, 2, 3, 8, 10, 11, 12] σ ρ) ∧ G = [⟨10, s.cells, true, false⟩, ⟨10, [.nilsl, .int .i64 0, .bool false, .int .i64 0, .int .i64 0, .int .i64 0, .int .i64 0, .nilsl, .nilsl, .int .i64 0], true, false⟩, ⟨6, rows v.s.regs, true, false⟩, ⟨6, rows v.s.mem.words, true, false⟩, ⟨1, rows v.s.mem.gone, true, false⟩, ⟨40, rows v.rob, true, false⟩, ⟨1, ints v.guesses, true, false⟩, ⟨19, v.own 2 3 4 5 6, true, false⟩]) ((fun (v : Cor) (i : Nat) => widN a - i) u  0) ?init3 (fun n ρ G hI => ?round3) (fun ρ G hJ => ?after3)
       case init3 => exact ⟨u, 0, rfl, (Nat.zero_le _), (i2_1), (rfl), ⟨liveE_refl _ _, (hL.2.2.2.2.2.2.2.2)⟩, rfl⟩
       case round3 =>
        clear hL
        obtain ⟨v, i, hn, i3_0, i3_1, i3_2, hL, hG⟩ := hI
        subst hG
        try simp only [go_sem, simprocAttr, e3, hX] at hL
        revert ρ hL
        refine zS [0, 2, 3, 8, 10, 11, 12, 36, 37, 38] ?_
        refine zC ?_ ?_
        · intro c4
          intro ρ hL
          refine awl_skip ?_
          refine awl_seq ?_
          refine awl_block fun R2 hw2 hR2 => ?_
          revert ρ hL
          refine zSF [0, 2, 3, 8, 10, 11, 12, 36, 37] (sat_impl_Pull l v hl i3_1) ?_
          intro ρ hL
          refine awl_nil ?_
          refine blk_normal (hR2 _ _ (.mk ?_))
          have wi : IntKind.i64.wrap ((i : Int) + 1) = ((i + 1 : Nat) : Int) := by rw [wrap64 (by omega)]; omega
          have hX0 := hX
          replace hX := And.intro wi hX
          revert ρ hL
          refine zS [0, 2, 3, 8, 10, 11, 12, 36, 37] ?_
          clear hX
          have hX := hX0
          clear hX0
          intro ρ hL
          refine awl_nil ?_
          refine loop_againW (Wk.keep [0, 1, 8, 9, 10, 11, 12, 7] rfl) _ ?meas ⟨(pull l v).1, (i + 1), rfl, (by omega), (by exact pull_fit i3_1), (by rw [← i3_2, pulls_step (u := v) (i := i) (W := widN a) (by omega)]), ⟨(by simp only [go_sem, simprocAttr, hL, hX, e3]), (by simp only [go_sem, simprocAttr, hL, hX, e3]; first | done | rfl)⟩, (by simp only [go_sem, simprocAttr, hL, hX, e3]; first | done | rfl)⟩
          case meas => subst hn; omega
        · intro c4
          intro ρ hL
          refine awl_exit ?_
          refine loop_break ?_
          exact ⟨v, (by rw [← i3_2, pulls_stop (by omega)]), (by exact i3_1), (by simp only [go_sem, simprocAttr, hL, hX, e3]), rfl⟩
       case after3 =>
        clear hL
        obtain ⟨v, j3_0, j3_1, hL, hG⟩ := hJ
        subst hG
        try simp only [go_sem, simprocAttr, e3, hX] at hL
        revert ρ hL
        refine zSF [0, 2, 3, 8, 10, 11, 12, 13, 14] (sat_impl_Settle l v j3_1) ?_
        refine zS [0, 2, 3, 8, 10, 11, 12, 14] ?_
        have hsm := settle_many (c := v)
        have wm : IntKind.i64.wrap (m + (settle v).2) = m + (settle v).2 := wrap64 (by omega)
        have hX0 := hX
        replace hX := And.intro wm hX
        refine zS [0, 2, 3, 8, 10, 11, 12] ?_
        clear hX
        have hX := hX0
        clear hX0
        intro ρ hL
        refine awl_nil ?_
        refine blk_normal (hR1 _ _ (.mk ?_))
        have wk : IntKind.i64.wrap ((k : Int) + 1) = ((k + 1 : Nat) : Int) := by rw [wrap64 (by omega)]; omega
        have hX0 := hX
        replace hX := And.intro wk hX
        revert ρ hL
        refine zS [0, 2, 3, 8, 10, 11, 12] ?_
        clear hX
        have hX := hX0
        clear hX0
        intro ρ hL
        refine awl_nil ?_
        refine loop_againW (Wk.keep [0, 1, 8, 9, 10, 11, 12, 7] rfl) _ ?meas ⟨(settle v).1, (k + 1), (m + (settle v).2), rfl, (by omega), (by exact settle_fit j3_1), (by omega), (by omega), (by rw [← i2_4, out_step (by omega) c3.2 j3_0]), ⟨(by simp only [go_sem, simprocAttr, hL, hX, e2]), (by simp only [go_sem, simprocAttr, hL, hX, e2]; first | done | rfl), (by simp only [go_sem, simprocAttr, hL, hX, e2]; first | done | rfl)⟩, (by simp only [go_sem, simprocAttr, hL, hX, e2]; first | done | rfl)⟩
        case meas => subst hn; omega
     · intro c3
       intro ρ hL
       refine awl_exit ?_
       refine loop_break ?_
       exact ⟨u, m, (by rw [← i2_4]; exact out_stop (by rcases c3 with c3 | c3; exact Or.inl (by omega); exact Or.inr c3)), ⟨(by simp only [go_sem, simprocAttr, hL, hX, e2]), (hL.2.2.2.2.2.1)⟩, rfl⟩
    case after2 =>
     clear hL
     obtain ⟨u, m, j2_0, hL, hG⟩ := hJ
     subst hG
     try simp only [go_sem, simprocAttr, e2, hX] at hL
     revert ρ hL
     refine zS [8, 9] ?_
     refine zK [2, 3, 4] [2, 3, 4] ?_ ?_
     all_goals try simp only [go_sem, simprocAttr, hX]
     all_goals try clear hR1
     all_goals try clear hR2
     all_goals (rw [outO_go c1, j2_0] <;> rfl)
end Go.Proofs.YtdifphcihhbjlaaGreat.AM
