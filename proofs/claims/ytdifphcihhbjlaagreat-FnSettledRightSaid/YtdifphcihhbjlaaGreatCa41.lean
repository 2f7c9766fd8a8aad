/- Picks one behind the other. No conditions but those each theorem bears. -/
import Derived.Test.YtdifphcihhbjlaaGreatFa
import Derived.Test.YtdifphcihhbjlaaGreatM5
import Derived.Test.YtdifphcihhbjlaaGreatCa39
import Derived.Test.YtdifphcihhbjlaaGreatCb5
set_option linter.unusedSimpArgs false
set_option linter.unusedVariables false
namespace Go.Proofs.YtdifphcihhbjlaaGreat.AM
open Go
set_option maxHeartbeats 8000000
set_option maxRecDepth 100000

theorem sat_spec_l16Number (p : Pik)  : Sat Tryz.prog 111 [.agg p.cells] [] (.tuple [.int .i64 (numS p), .bool (isN p)]) [] := by
 have hX := trivial
 refine sat_mk [.tmp 2, .tmp 3] 0 12 Tryz.call111 Tryz.func111 Tryz.ntmps111 rfl rfl rfl rfl rfl ?_
 refine zI [0] ?_
 refine zS [1] ?_
 refine zS [1, 6] ?_
 refine zC ?_ ?_
 · intro c1
   refine zS [2, 3] ?_
   refine zR ?_
   try simp only [go_sem, simprocAttr]
   all_goals (simp [numS, isN, c1])
 · intro c1
   intro ρ hL
   refine awl_skip ?_
   revert ρ hL
   refine zD [0, 1, 3, 0, 15] [2, 3] ?_
   refine zR ?_
   try simp only [go_sem, simprocAttr]
   all_goals (simp [numS, isN, c1])
theorem sat_impl_noted (p : Pik)  : Sat Tryz.prog 110 [.agg p.cells] [] (.tuple [.int .i64 (numI p), .bool (isN p)]) [] := by
 have hX := trivial
 refine sat_mk [.tmp 2, .tmp 3] 0 12 Tryz.call110 Tryz.func110 Tryz.ntmps110 rfl rfl rfl rfl rfl ?_
 refine zI [0] ?_
 refine zS [1] ?_
 refine zS [1, 5] ?_
 intro ρ hL
 refine awl_block fun R1 hw1 hR1 => ?_
 revert ρ hL
 refine zS [1, 5, 6] ?_
 refine zC ?_ ?_
 · intro c1
   refine zS [2, 3] ?_
   refine zR ?_
   try simp only [go_sem, simprocAttr]
   all_goals try clear hR1
   all_goals (simp [numI, isN, c1])
 · intro c1
   refine zS [1, 8] ?_
   refine zC ?_ ?_
   · intro c2
     refine zS [2, 3] ?_
     refine zR ?_
     try simp only [go_sem, simprocAttr]
     all_goals try clear hR1
     all_goals (simp [numI, isN, c1, c2])
   · intro c2
     intro ρ hL
     refine awl_skip ?_
     refine awl_nil ?_
     refine blk_normal (hR1 _ _ (.mk ?_))
     revert ρ hL
     refine zS [2, 3] ?_
     refine zR ?_
     try simp only [go_sem, simprocAttr]
     all_goals try clear hR1
     all_goals (simp [numI, isN, c1, c2])
theorem sat_spec_CoreRun (l : List Ins) (s : Stt) (ps : List Pik) (hl : l.length ≤ 1048576) (hf : s.fit) (hp_ : ps.length ≤ 1048576) : Sat Tryz.prog 33 [.sl l.length l.length (rows l), .agg s.cells, .sl ps.length ps.length (rows ps)] [] (.tuple [.agg ((corRun l s ps).1.own 0 1 2 3 4), .slice 5 0 (corRun l s ps).2.length 0]) ((corRun l s ps).1.blks ++ [⟨1, ints (corRun l s ps).2, true, false⟩]) := by
 have hX := trivial
 refine sat_mk [.cell 6 37, .tmp 7] 0 63 Tryz.call33 Tryz.func33 Tryz.ntmps33 rfl rfl rfl rfl rfl ?_
 refine zI [0, 1, 2] ?_
 refine zS [0, 2, 4, 6] ?_
 refine zS [0, 2, 4, 6, 8] ?_
 intro ρ hL
 refine zA ?_
 intro K hK
 refine zL [0, 2, 4, 6, 8, 19] ?_
 clear hL
 intro ρ hL
 refine grp_orN (tc := 19) (tv := 22) (td := 23) (v := ?v1) 3 rfl [0, 2, 4, 6, 8] hL.2.2.2.2.2 rfl (fun hb K1 hK1 => ?run) (fun hb => ?skip) (fun ρ hP hM => ?_)
 case skip => exact skA (want := false) (b := _) (by rw [hb]; rfl) hL.2.2.2.2.2 rfl
 case run =>
  simp only [List.take_succ_cons, List.take_zero]
  rw [hb] at hL
  try simp only [go_sem, simprocAttr, hL, hX]
  repeat' refine And.intro (by first | rfl | omega | (simp; done)) ?_
  refine zF (sat_spec_StateOk s hf) ?_
  refine hK1 _ ?_ ?_ ?_ <;> simp only [go_sem, simprocAttr, hL, hX] <;> exact rfl
 simp only [List.drop_succ_cons, List.drop_zero]
 try simp only [go_sem, simprocAttr, hL, hX] at hM
 replace hL := And.intro hP hM
 clear hP hM
 try simp only [go_sem, simprocAttr, hL, hX]
 repeat' refine And.intro (by first | rfl | omega | (simp; done)) ?_
 refine zE [0, 2, 4, 6, 8, 23] ?_
 clear hK K hL
 refine zC ?_ ?_
 · intro c1
   refine zS [6, 7] ?_
   intro ρ hL
   refine awl_ret ?_
   refine retN (v := .tuple [.agg [.nilsl, .int .i64 0, .bool false, .int .i64 0, .int .i64 0, .int .i64 0, .int .i64 0, .nilsl, .nilsl, .int .i64 0, .nilsl, .int .i64 0, .bool false, .int .i64 0, .int .i64 0, .int .i64 0, .int .i64 0, .bool false, .nilsl], .esl]) [6, 6, 1, 40, 1, 1] [2, 3, 4, 5, 6, 7] [2, 3, 4, 5, 6, 7] rfl (by simp only [go_sem, simprocAttr, hL, hX]; exact rfl) (by first | rfl | (simp only [go_sem, simprocAttr, hL, hX]; first | done | rfl)) (Ref.tuple (RefL.cons (Ref.agg (RefL.cons (Ref.nil 2 ⟨Nat.le_of_ble_eq_true rfl, Nat.le_of_ble_eq_true rfl⟩) (RefL.cons (Ref.refl _) (RefL.cons (Ref.refl _) (RefL.cons (Ref.refl _) (RefL.cons (Ref.refl _) (RefL.cons (Ref.refl _) (RefL.cons (Ref.refl _) (RefL.cons (Ref.nil 3 ⟨Nat.le_of_ble_eq_true rfl, Nat.le_of_ble_eq_true rfl⟩) (RefL.cons (Ref.nil 4 ⟨Nat.le_of_ble_eq_true rfl, Nat.le_of_ble_eq_true rfl⟩) (RefL.cons (Ref.refl _) (RefL.cons (Ref.nil 5 ⟨Nat.le_of_ble_eq_true rfl, Nat.le_of_ble_eq_true rfl⟩) (RefL.cons (Ref.refl _) (RefL.cons (Ref.refl _) (RefL.cons (Ref.refl _) (RefL.cons (Ref.refl _) (RefL.cons (Ref.refl _) (RefL.cons (Ref.refl _) (RefL.cons (Ref.refl _) (RefL.cons (Ref.nil 6 ⟨Nat.le_of_ble_eq_true rfl, Nat.le_of_ble_eq_true rfl⟩) (RefL.same []))))))))))))))))))))) (RefL.cons (Ref.esl 7 ⟨Nat.le_of_ble_eq_true rfl, Nat.le_of_ble_eq_true rfl⟩) (RefL.same [])))) rfl (by decide) rfl rfl ?_ ?_
   all_goals try simp only [go_sem, simprocAttr, hL, hX]
   all_goals (rw [runC_no (c1.imp (fun h => by omega) id)] <;> rfl)
 · intro c1
   intro ρ hL
   refine awl_skip ?_
   have hgo : ¬ (600 < ps.length ∨ sttOk s = false) := fun h => h.elim (fun h => by omega) (fun h => by rw [c1.2] at h; cases h)
   revert ρ hL
   refine zSF [0, 2, 6, 8, 9] (sat_spec_CoreNew s hf) ?_
   intro ρ hL
   refine zA ?_
   intro K hK
   have h8 := hL.2.2.2.1
   refine hK _ _ ⟨_, _, (Wk.norm [1] (RefE.refl.upd (t := 8) (by simp only [go_sem, simprocAttr, h8]; first | done | rfl) (Ref.esl 8 ⟨Nat.le_refl _, Nat.lt_succ_self _⟩))), awl_live' [0, 2, 6, 8, 9, 10] fun ρ hM => ?_⟩
   try simp only [go_sem, simprocAttr, hL, hX] at hM
   clear hK K h8 hL
   try simp only [go_sem, simprocAttr]
   revert ρ hM
   intro ρ hL
   have e1 := hL
   refine awl_loopH (fun H0 n σ G => ∃ (u : Cor) (o : List Int) (i : Nat), n = ps.length - i ∧ (i ≤ ps.length) ∧ (u.fit) ∧ (o.length ≤ i) ∧ ((ps.take i).foldl (corStep l) (corNew s, []) = (u, o)) ∧ (liveE [0, 2, 6, 9] σ ρ ∧ σ 8 = .slice 8 0 o.length 0 ∧ σ 10 = .int .i64 (i : Int)) ∧ G = [⟨10, s.cells, true, false⟩, ⟨19, [.nilsl, .int .i64 0, .bool false, .int .i64 0, .int .i64 0, .int .i64 0, .int .i64 0, .nilsl, .nilsl, .int .i64 0, .nilsl, .int .i64 0, .bool false, .int .i64 0, .int .i64 0, .int .i64 0, .int .i64 0, .bool false, .nilsl], true, false⟩, ⟨6, rows u.s.regs, true, false⟩, ⟨6, rows u.s.mem.words, true, false⟩, ⟨1, rows u.s.mem.gone, true, false⟩, ⟨40, rows u.rob, true, false⟩, ⟨1, ints u.guesses, true, false⟩, ⟨19, u.own 2 3 4 5 6, true, false⟩, ⟨1, ints o, true, false⟩]) (fun H0 σ G => ∃ (u : Cor) (o : List Int), (corRun l s ps = (u, o)) ∧ (liveE [6, 9] σ ρ ∧ σ 8 = .slice 8 0 o.length 0) ∧ G = [⟨10, s.cells, true, false⟩, ⟨19, [.nilsl, .int .i64 0, .bool false, .int .i64 0, .int .i64 0, .int .i64 0, .int .i64 0, .nilsl, .nilsl, .int .i64 0, .nilsl, .int .i64 0, .bool false, .int .i64 0, .int .i64 0, .int .i64 0, .int .i64 0, .bool false, .nilsl], true, false⟩, ⟨6, rows u.s.regs, true, false⟩, ⟨6, rows u.s.mem.words, true, false⟩, ⟨1, rows u.s.mem.gone, true, false⟩, ⟨40, rows u.rob, true, false⟩, ⟨1, ints u.guesses, true, false⟩, ⟨19, u.own 2 3 4 5 6, true, false⟩, ⟨1, ints o, true, false⟩]) ((fun (u : Cor) (o : List Int) (i : Nat) => ps.length - i) (corNew s)  []  0) ?init1 (fun n ρ G hI => ?round1) (fun ρ G hJ => ?after1)
   case init1 => exact ⟨(corNew s), [], 0, rfl, (Nat.zero_le _), (corNew_fit hf), (Nat.le_refl _), (rfl), ⟨liveE_refl _ _, (hL.2.2.2.1), (hL.2.2.2.2.2)⟩, rfl⟩
   case round1 =>
    clear hL
    obtain ⟨u, o, i, hn, i1_0, i1_1, i1_2, i1_3, hL, hG⟩ := hI
    subst hG
    try simp only [go_sem, simprocAttr, e1, hX] at hL
    revert ρ hL
    refine zS [0, 2, 6, 8, 9, 10, 31] ?_
    refine zC ?_ ?_
    · intro c2
      have hi1 : i < ps.length := by omega
      replace hX := And.intro hi1 hX
      intro ρ hL
      refine awl_skip ?_
      refine awl_seq ?_
      refine awl_block fun R1 hw1 hR1 => ?_
      refine zAD [0, 0, 0, 0, 12, 28, 63, 127, 255, 255, 0, 1535, 4095] ?_
      intro K hK
      refine zFD [0, 0, 0, 0, 12, 28, 63, 127, 255, 255, 0, 1535, 4095] (sat_spec_CorePick l u (ps.getD i noPik) hl i1_1) ?_
      refine zE [0, 2, 6, 8, 9, 10, 11, 12] ?_
      clear hK K hL
      refine zS [0, 2, 6, 8, 9, 10, 12] ?_
      refine zSF [0, 2, 6, 8, 9, 10, 12, 13, 14] (sat_spec_l16Number (ps.getD i noPik)) ?_
      intro ρ hL
      refine zA ?_
      intro K hK
      refine zL [0, 2, 6, 8, 9, 10, 13, 14, 54] ?_
      clear hL
      intro ρ hL
      refine grp_andN (tc := 54) (tv := 55) (td := 56) (v := ?v2) 1 rfl [0, 2, 6, 8, 9, 10, 13] hL.2.2.2.2.2.2.2.2 rfl (fun hb K1 hK1 => ?run) (fun hb => ?skip) (fun ρ hP hM => ?_)
      case skip => exact skA (want := true) (b := _) (by rw [hb]; rfl) hL.2.2.2.2.2.2.2.2 rfl
      case run =>
       simp only [List.take_succ_cons, List.take_zero]
       rw [hb] at hL
       try simp only [go_sem, simprocAttr, hL, hX]
       repeat' refine And.intro (by first | rfl | omega | (simp; done)) ?_
       refine hK1 _ ?_ ?_ ?_ <;> simp only [go_sem, simprocAttr, hL, hX] <;> exact rfl
      simp only [List.drop_succ_cons, List.drop_zero]
      try simp only [go_sem, simprocAttr, hL, hX] at hM
      replace hL := And.intro hP hM
      clear hP hM
      try simp only [go_sem, simprocAttr, hL, hX]
      repeat' refine And.intro (by first | rfl | omega | (simp; done)) ?_
      refine zE [0, 2, 6, 8, 9, 10, 13, 56] ?_
      clear hK K hL
      refine zC ?_ ?_
      · intro c3
        have hq1 : o.length ≤ 600 := by omega
        refine zS [0, 2, 6, 8, 9, 10] ?_
        intro ρ hL
        refine awl_nil ?_
        refine blk_normal (hR1 _ _ (.mk ?_))
        have w1 : IntKind.i64.wrap ((i : Int) + 1) = ((i + 1 : Nat) : Int) := by rw [wrap64 (by omega)]; omega
        replace hX := And.intro w1 hX
        revert ρ hL
        refine zS [0, 2, 6, 8, 9, 10] ?_
        intro ρ hL
        refine awl_nil ?_
        refine loop_againW (Wk.keep [0, 1, 9, 10, 11, 12, 13, 7, 16] rfl) _ ?meas ⟨(corPick l u (ps.getD i noPik)).1, (o ++ [numS (ps.getD i noPik)]), (i + 1), rfl, (by omega), (by exact pick_fit i1_1), (by rw [List.length_append]; simp; omega), (by rw [foldC_take hi1 i1_3, stepC_on c3.1 (noteS c3.2)]), ⟨(by simp only [go_sem, simprocAttr, hL, hX, e1]), (by simp only [go_sem, simprocAttr, hL, hX, e1]; rw [List.length_append]; rfl), (by simp only [go_sem, simprocAttr, hL, hX, e1]; first | done | rfl)⟩, (by simp only [go_sem, simprocAttr, hL, hX, e1]; rw [ints_snoc])⟩
        case meas => subst hn; omega
      · intro c3
        intro ρ hL
        refine awl_skip ?_
        refine awl_nil ?_
        refine blk_normal (hR1 _ _ (.mk ?_))
        have w1 : IntKind.i64.wrap ((i : Int) + 1) = ((i + 1 : Nat) : Int) := by rw [wrap64 (by omega)]; omega
        replace hX := And.intro w1 hX
        revert ρ hL
        refine zS [0, 2, 6, 8, 9, 10] ?_
        intro ρ hL
        refine awl_nil ?_
        refine loop_againW (Wk.keep [0, 1, 9, 10, 11, 12, 13, 7, 8] rfl) _ ?meas ⟨(corPick l u (ps.getD i noPik)).1, o, (i + 1), rfl, (by omega), (by exact pick_fit i1_1), (by omega), (by rw [foldC_take hi1 i1_3, stepC_off (c3.imp id note_off)]), ⟨(by simp only [go_sem, simprocAttr, hL, hX, e1]), (by simp only [go_sem, simprocAttr, hL, hX, e1]; first | done | rfl), (by simp only [go_sem, simprocAttr, hL, hX, e1]; first | done | rfl)⟩, (by simp only [go_sem, simprocAttr, hL, hX, e1]; first | done | rfl)⟩
        case meas => subst hn; omega
    · intro c2
      intro ρ hL
      refine awl_exit ?_
      refine loop_break ?_
      exact ⟨u, o, (by rw [runC_go hgo, ← i1_3, List.take_of_length_le (by omega)]), ⟨(by simp only [go_sem, simprocAttr, hL, hX, e1]), (hL.2.2.2.1)⟩, rfl⟩
   case after1 =>
    clear hL
    obtain ⟨u, o, j1_0, hL, hG⟩ := hJ
    subst hG
    try simp only [go_sem, simprocAttr, e1, hX] at hL
    revert ρ hL
    refine zS [6, 7] ?_
    refine zK [2, 3, 4, 5, 6, 8] [2, 3, 4, 5, 6, 8] ?_ ?_
    all_goals try simp only [go_sem, simprocAttr, hX]
    all_goals try clear hR1
    all_goals (rw [j1_0] <;> rfl)
theorem sat_impl_CoreRun (l : List Ins) (s : Stt) (ps : List Pik) (hl : l.length ≤ 1048576) (hf : s.fit) (hp_ : ps.length ≤ 1048576) : Sat Tryz.prog 32 [.sl l.length l.length (rows l), .agg s.cells, .sl ps.length ps.length (rows ps)] [] (.tuple [.agg ((corRun l s ps).1.own 0 1 2 3 4), .slice 5 0 (corRun l s ps).2.length 0]) ((corRun l s ps).1.blks ++ [⟨1, ints (corRun l s ps).2, true, false⟩]) := by
 have hX := trivial
 refine sat_mk [.cell 6 37, .tmp 7] 0 58 Tryz.call32 Tryz.func32 Tryz.ntmps32 rfl rfl rfl rfl rfl ?_
 refine zI [0, 1, 2] ?_
 refine zS [0, 2, 4, 6] ?_
 intro ρ hL
 refine zA ?_
 intro K hK
 refine zL [0, 2, 4, 6, 19] ?_
 clear hL
 intro ρ hL
 refine grp_orN (tc := 19) (tv := 22) (td := 23) (v := ?v1) 3 rfl [0, 2, 4, 6] hL.2.2.2.2 rfl (fun hb K1 hK1 => ?run) (fun hb => ?skip) (fun ρ hP hM => ?_)
 case skip => exact skA (want := false) (b := _) (by rw [hb]; rfl) hL.2.2.2.2 rfl
 case run =>
  simp only [List.take_succ_cons, List.take_zero]
  rw [hb] at hL
  try simp only [go_sem, simprocAttr, hL, hX]
  repeat' refine And.intro (by first | rfl | omega | (simp; done)) ?_
  refine zF (sat_impl_StateOk s hf) ?_
  refine hK1 _ ?_ ?_ ?_ <;> simp only [go_sem, simprocAttr, hL, hX] <;> exact rfl
 simp only [List.drop_succ_cons, List.drop_zero]
 try simp only [go_sem, simprocAttr, hL, hX] at hM
 replace hL := And.intro hP hM
 clear hP hM
 try simp only [go_sem, simprocAttr, hL, hX]
 repeat' refine And.intro (by first | rfl | omega | (simp; done)) ?_
 refine zE [0, 2, 4, 6, 23] ?_
 clear hK K hL
 refine zC ?_ ?_
 · intro c1
   refine zS [6, 7] ?_
   intro ρ hL
   refine awl_ret ?_
   refine retN (v := .tuple [.agg [.nilsl, .int .i64 0, .bool false, .int .i64 0, .int .i64 0, .int .i64 0, .int .i64 0, .nilsl, .nilsl, .int .i64 0, .nilsl, .int .i64 0, .bool false, .int .i64 0, .int .i64 0, .int .i64 0, .int .i64 0, .bool false, .nilsl], .nilsl]) [6, 6, 1, 40, 1, 1] [2, 3, 4, 5, 6, 7] [2, 3, 4, 5, 6, 7] rfl (by simp only [go_sem, simprocAttr, hL, hX]; exact rfl) (by first | rfl | (simp only [go_sem, simprocAttr, hL, hX]; first | done | rfl)) (Ref.tuple (RefL.cons (Ref.agg (RefL.cons (Ref.nil 2 ⟨Nat.le_of_ble_eq_true rfl, Nat.le_of_ble_eq_true rfl⟩) (RefL.cons (Ref.refl _) (RefL.cons (Ref.refl _) (RefL.cons (Ref.refl _) (RefL.cons (Ref.refl _) (RefL.cons (Ref.refl _) (RefL.cons (Ref.refl _) (RefL.cons (Ref.nil 3 ⟨Nat.le_of_ble_eq_true rfl, Nat.le_of_ble_eq_true rfl⟩) (RefL.cons (Ref.nil 4 ⟨Nat.le_of_ble_eq_true rfl, Nat.le_of_ble_eq_true rfl⟩) (RefL.cons (Ref.refl _) (RefL.cons (Ref.nil 5 ⟨Nat.le_of_ble_eq_true rfl, Nat.le_of_ble_eq_true rfl⟩) (RefL.cons (Ref.refl _) (RefL.cons (Ref.refl _) (RefL.cons (Ref.refl _) (RefL.cons (Ref.refl _) (RefL.cons (Ref.refl _) (RefL.cons (Ref.refl _) (RefL.cons (Ref.refl _) (RefL.cons (Ref.nil 6 ⟨Nat.le_of_ble_eq_true rfl, Nat.le_of_ble_eq_true rfl⟩) (RefL.same []))))))))))))))))))))) (RefL.cons (Ref.nil 7 ⟨Nat.le_of_ble_eq_true rfl, Nat.le_of_ble_eq_true rfl⟩) (RefL.same [])))) rfl (by decide) rfl rfl ?_ ?_
   all_goals try simp only [go_sem, simprocAttr, hL, hX]
   all_goals (rw [runC_no (c1.imp (fun h => by omega) id)] <;> rfl)
 · intro c1
   intro ρ hL
   refine awl_skip ?_
   have hgo : ¬ (600 < ps.length ∨ sttOk s = false) := fun h => h.elim (fun h => by omega) (fun h => by rw [c1.2] at h; cases h)
   revert ρ hL
   refine zSF [0, 2, 6, 8] (sat_impl_CoreNew s hf) ?_
   refine zS [0, 2, 6, 8, 9] ?_
   intro ρ hL
   refine zA ?_
   intro K hK
   have h9 := hL.2.2.2.2
   refine hK _ _ ⟨_, _, (Wk.norm [1] (RefE.refl.upd (t := 9) (by simp only [go_sem, simprocAttr, h9]; first | done | rfl) (Ref.esl 8 ⟨Nat.le_refl _, Nat.lt_succ_self _⟩))), awl_live' [0, 6, 8, 9, 28, 29, 30] fun ρ hM => ?_⟩
   try simp only [go_sem, simprocAttr, hL, hX] at hM
   clear hK K h9 hL
   try simp only [go_sem, simprocAttr]
   revert ρ hM
   intro ρ hL
   have e1 := hL
   refine awl_loopH (fun H0 n σ G => ∃ (u : Cor) (o : List Int) (i : Nat), n = ps.length - i ∧ (i ≤ ps.length) ∧ (u.fit) ∧ (o.length ≤ i) ∧ ((ps.take i).foldl (corStep l) (corNew s, []) = (u, o)) ∧ (liveE [0, 6, 8, 28, 29] σ ρ ∧ σ 9 = .slice 8 0 o.length 0 ∧ σ 30 = .int .i64 (i : Int)) ∧ G = [⟨10, s.cells, true, false⟩, ⟨19, [.nilsl, .int .i64 0, .bool false, .int .i64 0, .int .i64 0, .int .i64 0, .int .i64 0, .nilsl, .nilsl, .int .i64 0, .nilsl, .int .i64 0, .bool false, .int .i64 0, .int .i64 0, .int .i64 0, .int .i64 0, .bool false, .nilsl], true, false⟩, ⟨6, rows u.s.regs, true, false⟩, ⟨6, rows u.s.mem.words, true, false⟩, ⟨1, rows u.s.mem.gone, true, false⟩, ⟨40, rows u.rob, true, false⟩, ⟨1, ints u.guesses, true, false⟩, ⟨19, u.own 2 3 4 5 6, true, false⟩, ⟨1, ints o, true, false⟩]) (fun H0 σ G => ∃ (u : Cor) (o : List Int), (corRun l s ps = (u, o)) ∧ (liveE [6, 8] σ ρ ∧ σ 9 = .slice 8 0 o.length 0) ∧ G = [⟨10, s.cells, true, false⟩, ⟨19, [.nilsl, .int .i64 0, .bool false, .int .i64 0, .int .i64 0, .int .i64 0, .int .i64 0, .nilsl, .nilsl, .int .i64 0, .nilsl, .int .i64 0, .bool false, .int .i64 0, .int .i64 0, .int .i64 0, .int .i64 0, .bool false, .nilsl], true, false⟩, ⟨6, rows u.s.regs, true, false⟩, ⟨6, rows u.s.mem.words, true, false⟩, ⟨1, rows u.s.mem.gone, true, false⟩, ⟨40, rows u.rob, true, false⟩, ⟨1, ints u.guesses, true, false⟩, ⟨19, u.own 2 3 4 5 6, true, false⟩, ⟨1, ints o, true, false⟩]) ((fun (u : Cor) (o : List Int) (i : Nat) => ps.length - i) (corNew s)  []  0) ?init1 (fun n ρ G hI => ?round1) (fun ρ G hJ => ?after1)
   case init1 => exact ⟨(corNew s), [], 0, rfl, (Nat.zero_le _), (corNew_fit hf), (Nat.le_refl _), (rfl), ⟨liveE_refl _ _, (hL.2.2.2.1), (hL.2.2.2.2.2.2)⟩, rfl⟩
   case round1 =>
    clear hL
    obtain ⟨u, o, i, hn, i1_0, i1_1, i1_2, i1_3, hL, hG⟩ := hI
    subst hG
    try simp only [go_sem, simprocAttr, e1, hX] at hL
    revert ρ hL
    refine zS [0, 6, 8, 9, 28, 29, 30, 31] ?_
    refine zC ?_ ?_
    · intro c2
      have hi1 : i < ps.length := by omega
      replace hX := And.intro hi1 hX
      intro ρ hL
      refine awl_skip ?_
      refine awl_seq ?_
      refine awl_block fun R1 hw1 hR1 => ?_
      revert ρ hL
      refine zS [0, 6, 8, 9, 11, 28, 29, 30] ?_
      refine zSF [0, 6, 8, 9, 11, 12, 13, 28, 29, 30] (sat_impl_CorePick l u (ps.getD i noPik) hl i1_1) ?_
      refine zS [0, 6, 8, 9, 11, 13, 28, 29, 30] ?_
      refine zSF [0, 6, 8, 9, 13, 14, 15, 28, 29, 30] (sat_impl_noted (ps.getD i noPik)) ?_
      intro ρ hL
      refine zA ?_
      intro K hK
      refine zL [0, 6, 8, 9, 14, 15, 28, 29, 30, 48] ?_
      clear hL
      intro ρ hL
      refine grp_andN (tc := 48) (tv := 49) (td := 50) (v := ?v2) 1 rfl [0, 6, 8, 9, 14, 28, 29, 30] hL.2.2.2.2.2.2.2.2.2 rfl (fun hb K1 hK1 => ?run) (fun hb => ?skip) (fun ρ hP hM => ?_)
      case skip => exact skA (want := true) (b := _) (by rw [hb]; rfl) hL.2.2.2.2.2.2.2.2.2 rfl
      case run =>
       simp only [List.take_succ_cons, List.take_zero]
       rw [hb] at hL
       try simp only [go_sem, simprocAttr, hL, hX]
       repeat' refine And.intro (by first | rfl | omega | (simp; done)) ?_
       refine hK1 _ ?_ ?_ ?_ <;> simp only [go_sem, simprocAttr, hL, hX] <;> exact rfl
      simp only [List.drop_succ_cons, List.drop_zero]
      try simp only [go_sem, simprocAttr, hL, hX] at hM
      replace hL := And.intro hP hM
      clear hP hM
      try simp only [go_sem, simprocAttr, hL, hX]
      repeat' refine And.intro (by first | rfl | omega | (simp; done)) ?_
      refine zE [0, 6, 8, 9, 14, 28, 29, 30, 50] ?_
      clear hK K hL
      refine zC ?_ ?_
      · intro c3
        have hq1 : o.length ≤ 600 := by omega
        refine zS [0, 6, 8, 9, 28, 29, 30] ?_
        intro ρ hL
        refine awl_nil ?_
        refine blk_normal (hR1 _ _ (.mk ?_))
        have w1 : IntKind.i64.wrap ((i : Int) + 1) = ((i + 1 : Nat) : Int) := by rw [wrap64 (by omega)]; omega
        replace hX := And.intro w1 hX
        revert ρ hL
        refine zS [0, 6, 8, 9, 28, 29, 30] ?_
        intro ρ hL
        refine awl_nil ?_
        refine loop_againW (Wk.keep [0, 1, 10, 11, 12, 13, 14, 7, 17] rfl) _ ?meas ⟨(corPick l u (ps.getD i noPik)).1, (o ++ [numI (ps.getD i noPik)]), (i + 1), rfl, (by omega), (by exact pick_fit i1_1), (by rw [List.length_append]; simp; omega), (by rw [foldC_take hi1 i1_3, stepC_on c3.1 (noteI c3.2)]), ⟨(by simp only [go_sem, simprocAttr, hL, hX, e1]), (by simp only [go_sem, simprocAttr, hL, hX, e1]; rw [List.length_append]; rfl), (by simp only [go_sem, simprocAttr, hL, hX, e1]; first | done | rfl)⟩, (by simp only [go_sem, simprocAttr, hL, hX, e1]; rw [ints_snoc])⟩
        case meas => subst hn; omega
      · intro c3
        intro ρ hL
        refine awl_skip ?_
        refine awl_nil ?_
        refine blk_normal (hR1 _ _ (.mk ?_))
        have w1 : IntKind.i64.wrap ((i : Int) + 1) = ((i + 1 : Nat) : Int) := by rw [wrap64 (by omega)]; omega
        replace hX := And.intro w1 hX
        revert ρ hL
        refine zS [0, 6, 8, 9, 28, 29, 30] ?_
        intro ρ hL
        refine awl_nil ?_
        refine loop_againW (Wk.keep [0, 1, 10, 11, 12, 13, 14, 7, 8] rfl) _ ?meas ⟨(corPick l u (ps.getD i noPik)).1, o, (i + 1), rfl, (by omega), (by exact pick_fit i1_1), (by omega), (by rw [foldC_take hi1 i1_3, stepC_off (c3.imp id note_off)]), ⟨(by simp only [go_sem, simprocAttr, hL, hX, e1]), (by simp only [go_sem, simprocAttr, hL, hX, e1]; first | done | rfl), (by simp only [go_sem, simprocAttr, hL, hX, e1]; first | done | rfl)⟩, (by simp only [go_sem, simprocAttr, hL, hX, e1]; first | done | rfl)⟩
        case meas => subst hn; omega
    · intro c2
      intro ρ hL
      refine awl_exit ?_
      refine loop_break ?_
      exact ⟨u, o, (by rw [runC_go hgo, ← i1_3, List.take_of_length_le (by omega)]), ⟨(by simp only [go_sem, simprocAttr, hL, hX, e1]), (hL.2.2.2.1)⟩, rfl⟩
   case after1 =>
    clear hL
    obtain ⟨u, o, j1_0, hL, hG⟩ := hJ
    subst hG
    try simp only [go_sem, simprocAttr, e1, hX] at hL
    revert ρ hL
    refine zS [6, 7] ?_
    refine zK [2, 3, 4, 5, 6, 8] [2, 3, 4, 5, 6, 8] ?_ ?_
    all_goals try simp only [go_sem, simprocAttr, hX]
    all_goals try clear hR1
    all_goals (rw [j1_0] <;> rfl)
end Go.Proofs.YtdifphcihhbjlaaGreat.AM
