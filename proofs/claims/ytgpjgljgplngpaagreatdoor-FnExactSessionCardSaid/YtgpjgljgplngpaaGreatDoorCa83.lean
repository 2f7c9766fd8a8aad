/- Commands read. No conditions but those each theorem bears. -/
import Derived.Test.YtgpjgljgplngpaaGreatDoorFa
import Derived.Test.YtgpjgljgplngpaaGreatDoorCa82
set_option linter.unusedSimpArgs false
set_option linter.unusedVariables false
namespace Go.Proofs.YtgpjgljgplngpaaGreatDoor.AM
open Go
set_option maxHeartbeats 8000000
set_option maxRecDepth 100000
section
attribute [local go_sem] mk_bt bt_app bt_fits bt_size bt_ext bt_bat List.length_cons List.length_nil Int.toNat_zero strsV_len
theorem sat_spec_InsRead (l : Bs) (hl : l.length ≤ 1048576) : Sat Tryz.prog 65 [.str (bt l)] [] (.tuple [.agg (insRead l).1.cells, .bool (insRead l).2]) [] := by
 have hX := trivial
 refine sat_mk [.cell 2 92, .tmp 3] 0 87 Tryz.call65 Tryz.func65 Tryz.ntmps65 rfl rfl rfl rfl rfl ?_
 refine zI [0] ?_
 refine zS [0, 2] ?_
 have hwl : 0 < (wordsI l).length := words_pos
 have hwi : (0 : Int) < ((wordsI l).length : Int) := by omega
 have hwa := words_head (l := l)
 have hnn := names_len
 refine zSF [0, 2, 4] (sat_spec_l7Words l hl) ?_
 refine zSF [0, 2, 4, 5] (sat_spec_l7Names) ?_
 refine zS [0, 2, 4, 5, 6] ?_
 refine zS [0, 2, 4, 5, 6, 7] ?_
 intro ρ hL
 have e1 := hL
 refine awl_loopH (fun H0 n σ G => ∃ (i : Nat), n = 15 - i ∧ (i ≤ 15) ∧ (liveE [0, 2, 4, 5, 6] σ ρ ∧ σ 7 = .int .i64 ((i + 1 : Nat) : Int)) ∧ G = [⟨5, [.int .i64 0, .int .i64 0, .int .i64 0, .int .i64 0, .int .i64 0], true, false⟩, ⟨1, strsV (wordsI l), true, false⟩, ⟨1, strsV namesT, true, false⟩, ⟨5, [.int .i64 (opN ((wordsI l).getD 0 []) i), .int .i64 0, .int .i64 0, .int .i64 0, .int .i64 0], true, false⟩]) (fun H0 σ G => (liveE [0, 2, 4, 6] σ ρ) ∧ G = [⟨5, [.int .i64 0, .int .i64 0, .int .i64 0, .int .i64 0, .int .i64 0], true, false⟩, ⟨1, strsV (wordsI l), true, false⟩, ⟨1, strsV namesT, true, false⟩, ⟨5, [.int .i64 (opN ((wordsI l).getD 0 []) 15), .int .i64 0, .int .i64 0, .int .i64 0, .int .i64 0], true, false⟩]) ((fun (i : Nat) => 15 - i) 0) ?init1 (fun n ρ G hI => ?round1) (fun ρ G hJ => ?after1)
 case init1 => exact ⟨0, rfl, (Nat.zero_le _), ⟨liveE_refl _ _, (hL.2.2.2.2.2)⟩, rfl⟩
 case round1 =>
  clear hL
  obtain ⟨i, hn, i1_0, hL, hG⟩ := hI
  subst hG
  try simp only [go_sem, simprocAttr, e1, hX] at hL
  revert ρ hL
  refine zS [0, 2, 4, 5, 6, 7, 19] ?_
  refine zC ?_ ?_
  ·intro c1 ρ hL
   refine awl_skip (awl_seq (awl_block fun R1 hw1 hR1 => ?_))
   have hna := strsV_at (xs := namesT) (n := i + 1) (by show i + 1 < 16; omega)
   have hs1 : (0 : Int) ≤ ((i + 1 : Nat) : Int) := by omega
   have hs2 : ((i + 1 : Nat) : Int) < 16 := by omega
   repeat refine awl_seq ?_
   refine awl_regD mixed _ rfl fun K hK => ?_
   try simp only [go_sem, simprocAttr, hL, hX, hna, hs1, hs2, hwi, hwa, Int.le_refl]
   repeat' refine And.intro (by first | omega | (exact ⟨[0, 0, 3, 7, 0, 16, 48, 127], by kernel_rfl⟩) | kernel_rfl) ?_
   refine hK _ _ (.mk (awl_live' [0, 2, 4, 5, 6, 7, 29] fun ρ hM => ?_))
   try simp only [go_sem, simprocAttr, hL, hX, hna, hs1, hs2, hwi, hwa, Int.le_refl] at hM
   clear hK K hL
   revert ρ hM
   refine zC ?_ ?_
   ·intro c2
    refine zS [0, 2, 4, 5, 6, 7] ?_
    intro ρ hL
    refine awl_nil (blk_normal (hR1 _ _ (.mk ?_)))
    have hw6 : IntKind.i64.wrap (((i + 1 : Nat) : Int) + 1) = ((i + 1 + 1 : Nat) : Int) := by rw [wrap64 (by omega)]; omega
    revert ρ hL
    refine zSX [0, 2, 4, 5, 6, 7] (And.intro hw6 hX) ?_
    intro ρ hL
    refine awl_nil ?_
    refine loop_again _ ?meas ⟨(i + 1), rfl, (by omega), ⟨(by simp only [go_sem, simprocAttr, hL, hX, e1]), (hL.2.2.2.2.2)⟩, (by rw [opN_yes c2])⟩
    case meas => subst hn; omega
   ·intro c2 ρ hL
    refine awl_skip (awl_nil (blk_normal (hR1 _ _ (.mk ?_))))
    have hw6 : IntKind.i64.wrap (((i + 1 : Nat) : Int) + 1) = ((i + 1 + 1 : Nat) : Int) := by rw [wrap64 (by omega)]; omega
    revert ρ hL
    refine zSX [0, 2, 4, 5, 6, 7] (And.intro hw6 hX) ?_
    intro ρ hL
    refine awl_nil ?_
    refine loop_again _ ?meas ⟨(i + 1), rfl, (by omega), ⟨(by simp only [go_sem, simprocAttr, hL, hX, e1]), (hL.2.2.2.2.2)⟩, (by rw [opN_no c2])⟩
    case meas => subst hn; omega
  ·intro c1 ρ hL
   refine awl_exit (loop_break ?_)
   exact ⟨(by simp only [go_sem, simprocAttr, hL, hX, e1]), (by rw [show i = 15 by omega])⟩
 case after1 =>
  clear hL
  obtain ⟨hL, hG⟩ := hJ
  subst hG
  try simp only [go_sem, simprocAttr, e1, hX] at hL
  revert ρ hL
  refine zSF [0, 2, 4, 6, 8] (sat_spec_l6Has (opN ((wordsI l).getD 0 []) 15)) ?_
  refine zS [0, 2, 4, 6, 8, 9] ?_
  refine zS [0, 2, 4, 6, 8, 9, 10] ?_
  refine zS [0, 2, 4, 6, 8, 9, 10, 11] ?_
  intro ρ hL
  have e2 := hL
  refine awl_loopH (fun H0 n σ G => ∃ (i : Nat), n = 4 - i ∧ (i ≤ 4) ∧ (liveE [0, 2, 4, 6, 8, 9] σ ρ ∧ σ 10 = .int .i64 ((numsS (has (opN ((wordsI l).getD 0 []) 15)) (wordsI l) i).2 : Int) ∧ σ 11 = .int .i64 (i : Int)) ∧ G = [⟨5, [.int .i64 0, .int .i64 0, .int .i64 0, .int .i64 0, .int .i64 0], true, false⟩, ⟨1, strsV (wordsI l), true, false⟩, ⟨1, strsV namesT, true, false⟩, ⟨5, [.int .i64 (opN ((wordsI l).getD 0 []) 15), .int .i64 0, .int .i64 0, .int .i64 0, .int .i64 0], true, false⟩, ⟨1, ints (numsS (has (opN ((wordsI l).getD 0 []) 15)) (wordsI l) i).1, true, false⟩]) (fun H0 σ G => (liveE [0, 2, 6, 9] σ ρ) ∧ G = [⟨5, [.int .i64 0, .int .i64 0, .int .i64 0, .int .i64 0, .int .i64 0], true, false⟩, ⟨1, strsV (wordsI l), true, false⟩, ⟨1, strsV namesT, true, false⟩, ⟨5, [.int .i64 (opN ((wordsI l).getD 0 []) 15), .int .i64 0, .int .i64 0, .int .i64 0, .int .i64 0], true, false⟩, ⟨1, ints (numsS (has (opN ((wordsI l).getD 0 []) 15)) (wordsI l) 4).1, true, false⟩]) ((fun (i : Nat) => 4 - i) 0) ?init2 (fun n ρ G hI => ?round2) (fun ρ G hJ => ?after2)
  case init2 => exact ⟨0, rfl, (Nat.zero_le _), ⟨liveE_refl _ _, (hL.2.2.2.2.2.2.1), (hL.2.2.2.2.2.2.2)⟩, rfl⟩
  case round2 =>
   clear hL
   obtain ⟨i, hn, i2_0, hL, hG⟩ := hI
   subst hG
   try simp only [go_sem, simprocAttr, e2, hX] at hL
   revert ρ hL
   refine zS [0, 2, 4, 6, 8, 9, 10, 11, 37] ?_
   refine zC ?_ ?_
   ·intro c3
    have hi2 : i < 4 := by omega
    replace hX := And.intro hi2 hX
    intro ρ hL
    refine awl_skip (awl_seq (awl_block fun R2 hw2 hR2 => ?_))
    have hm : min i 64 = i := by omega
    have hns := numsS_len (h := (has (opN ((wordsI l).getD 0 []) 15))) (ws := (wordsI l)) i
    have hX0 := hX
    replace hX := And.intro hm hX
    refine zA ?_
    intro K hK
    refine zL [0, 2, 4, 6, 8, 9, 10, 11, 45] ?_
    clear hL
    intro ρ hL
    refine grp_andN (v := ?v1) 4 rfl [0, 2, 4, 6, 8, 9, 10, 11] hL.2.2.2.2.2.2.2.2 rfl (fun hb K1 hK1 => ?run) (fun hb => skA (want := true) (b := _) (by rw [hb]; rfl) hL.2.2.2.2.2.2.2.2 rfl) (fun ρ hP hM => ?_)
    case run => exact zR1
    refine zPp ?_
    clear hL hP hM
    intro hL
    refine zE [0, 2, 4, 6, 8, 9, 10, 11, 50] ?_
    clear hK K hL
    clear hX
    have hX := hX0
    clear hX0
    refine zC ?_ ?_
    ·intro c4
     have hj : (numsS (has (opN ((wordsI l).getD 0 []) 15)) (wordsI l) i).2 < (wordsI l).length := by omega
     have hs1 : (0 : Int) ≤ ((numsS (has (opN ((wordsI l).getD 0 []) 15)) (wordsI l) i).2 : Int) := by omega
     have hs2 : ((numsS (has (opN ((wordsI l).getD 0 []) 15)) (wordsI l) i).2 : Int) < ((wordsI l).length : Int) := by omega
     have hsa := strsV_at hj
     have hil : (ints (numsS (has (opN ((wordsI l).getD 0 []) 15)) (wordsI l) i).1).length = 4 := by rw [ints_len, hns.1]
     have hpu := put_ints (xs := (numsS (has (opN ((wordsI l).getD 0 []) 15)) (wordsI l) i).1) (i := i) (x := numL ((wordsI l).getD (numsS (has (opN ((wordsI l).getD 0 []) 15)) (wordsI l) i).2 [])) (by rw [hns.1]; omega)
     have hs3 : (0 : Int) ≤ (i : Int) := by omega
     have hs4 : (i : Int) < 4 := by omega
     refine zSFX [0, 2, 4, 6, 8, 9, 10, 11] (sat_spec_l7Num ((wordsI l).getD (numsS (has (opN ((wordsI l).getD 0 []) 15)) (wordsI l) i).2 []) (Nat.le_trans (word_le (by omega)) hl)) (And.intro hs1 (And.intro hs2 (And.intro hsa (And.intro hil (And.intro hpu (And.intro hs3 (And.intro hs4 hX))))))) ?_
     have hw17 : IntKind.i64.wrap (((numsS (has (opN ((wordsI l).getD 0 []) 15)) (wordsI l) i).2 : Int) + 1) = (((numsS (has (opN ((wordsI l).getD 0 []) 15)) (wordsI l) i).2 + 1 : Nat) : Int) := by rw [wrap64 (by omega)]; omega
     refine zSX [0, 2, 4, 6, 8, 9, 10, 11] (And.intro hw17 hX) ?_
     intro ρ hL
     refine awl_nil (blk_normal (hR2 _ _ (.mk ?_)))
     have w2 : IntKind.i64.wrap ((i : Int) + 1) = ((i + 1 : Nat) : Int) := by rw [wrap64 (by omega)]; omega
     replace hX := And.intro w2 hX
     revert ρ hL
     refine zS [0, 2, 4, 6, 8, 9, 10, 11] ?_
     intro ρ hL
     refine awl_nil ?_
     refine loop_again _ ?meas ⟨i + 1, rfl, (by omega), ⟨(by simp only [go_sem, simprocAttr, hL, hX, e2]), (by simp only [go_sem, simprocAttr, hL, hX, e2]; rw [numsS_yes c4.1 hj]), (hL.2.2.2.2.2.2.2)⟩, (by rw [numsS_yes c4.1 hj])⟩
     case meas => subst hn; omega
    ·intro c4 ρ hL
     refine awl_skip (awl_nil (blk_normal (hR2 _ _ (.mk ?_))))
     have w2 : IntKind.i64.wrap ((i : Int) + 1) = ((i + 1 : Nat) : Int) := by rw [wrap64 (by omega)]; omega
     replace hX := And.intro w2 hX
     revert ρ hL
     refine zS [0, 2, 4, 6, 8, 9, 10, 11] ?_
     intro ρ hL
     refine awl_nil ?_
     refine loop_again _ ?meas ⟨i + 1, rfl, (by omega), ⟨(by simp only [go_sem, simprocAttr, hL, hX, e2]), (by simp only [go_sem, simprocAttr, hL, hX, e2]; rw [numsS_no (by omega)]), (hL.2.2.2.2.2.2.2)⟩, (by rw [numsS_no (by omega)])⟩
     case meas => subst hn; omega
   ·intro c3 ρ hL
    refine awl_exit (loop_break ?_)
    exact ⟨(by simp only [go_sem, simprocAttr, hL, hX, e2]), (by rw [show i = 4 by omega])⟩
  case after2 =>
   clear hL
   obtain ⟨hL, hG⟩ := hJ
   subst hG
   try simp only [go_sem, simprocAttr, e2, hX] at hL
   have hfh := four_heads (numsS_len (h := (has (opN ((wordsI l).getD 0 []) 15))) (ws := (wordsI l)) 4).1
   obtain ⟨hf0, hf1, hf2, hf3⟩ := hfh
   revert ρ hL
   refine zSX [0, 2, 6, 9] (And.intro hf0 hX) ?_
   refine zSX [0, 2, 6, 9] (And.intro hf1 hX) ?_
   refine zSX [0, 2, 6, 9] (And.intro hf2 hX) ?_
   refine zSX [0, 2, 6] (And.intro hf3 hX) ?_
   intro ρ hL
   refine zA ?_
   intro K hK
   refine zL [0, 2, 6, 79] ?_
   clear hL
   intro ρ hL
   refine grp_orN (v := ?v2) 4 rfl [2, 6] hL.2.2.2 rfl (fun hb K1 hK1 => ?run) (fun hb => skA (want := false) (b := _) (by rw [hb]; rfl) hL.2.2.2 rfl) (fun ρ hP hM => ?_)
   case run =>
    refine zRn ?_
    intro hL
    refine zF (sat_spec_InsText (insS l)) ?_
    exact zK1
   refine zPp ?_
   clear hL hP hM
   intro hL
   refine zE [2, 6, 84] ?_
   clear hK K hL
   refine zC ?_ ?_
   ·intro c5
    refine zS [2, 3] ?_
    refine zR ?_
    try simp only [go_sem, simprocAttr]
    all_goals try clear hR1
    all_goals ((try clear hR2); rw [insRead_eq, if_neg (by intro h; revert c5; simp [h.1, h.2, bt_inj])]; rfl)
   ·intro c5 ρ hL
    refine awl_skip ?_
    revert ρ hL
    refine zS [2, 3] ?_
    refine zR ?_
    try simp only [go_sem, simprocAttr]
    all_goals try clear hR1
    all_goals ((try clear hR2); rw [insRead_eq, if_pos (by revert c5; simp [bt_inj])]; rfl)
end
end Go.Proofs.YtgpjgljgplngpaaGreatDoor.AM
