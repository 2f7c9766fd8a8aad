/- Numbers and words of a command. No conditions but those each theorem bears. -/
import Derived.Test.YtgpjgljgplngpaaGreatDoorFa
import Derived.Test.YtgpjgljgplngpaaGreatDoorCa81
import Derived.Test.YtgpjgljgplngpaaGreatDoorX1
set_option linter.unusedSimpArgs false
set_option linter.unusedVariables false
namespace Go.Proofs.YtgpjgljgplngpaaGreatDoor.AM
open Go
set_option maxHeartbeats 8000000
set_option maxRecDepth 100000
theorem sat_impl_withPart (x : Ins) (p : UInt8) (v : Int)  : Sat Tryz.prog 135 [.agg x.cells, .int .u8 (p.toNat : Int), .int .i64 v] [] (.agg (withP x p v).cells) [] := by
 have hX := trivial
 refine sat_mk [.cell 6 92] 0 25 Tryz.call135 Tryz.func135 Tryz.ntmps135 rfl rfl rfl rfl rfl ?_
 refine zI [0, 1, 2] ?_
 refine zS [1, 2, 3, 6] ?_
 refine zS [2, 3, 6, 7] ?_
 intro ρ hL
 refine awl_block fun R1 hw1 hR1 => ?_
 revert ρ hL
 refine zS [2, 3, 6, 7, 8] ?_
 refine zC ?_ ?_
 ·intro c1
  refine zS [3, 6] ?_
  intro ρ hL
  refine awl_nil (blk_normal (hR1 _ _ (.mk ?_)))
  revert ρ hL
  refine zS [6] ?_
  refine zR ?_
  try simp only [go_sem, simprocAttr]
  all_goals ((try clear hR1); first | (rw [withP_R c1]; try simp) | (rw [withP_A c2]; try simp) | (rw [withP_B c3]; try simp) | (rw [withP_N c4]; try simp) | (rw [withP_0 c1 c2 c3 c4]; try simp))
 ·intro c1
  refine zS [2, 3, 6, 7, 12] ?_
  refine zC ?_ ?_
  ·intro c2
   refine zS [3, 6] ?_
   intro ρ hL
   refine awl_nil (blk_normal (hR1 _ _ (.mk ?_)))
   revert ρ hL
   refine zS [6] ?_
   refine zR ?_
   try simp only [go_sem, simprocAttr]
   all_goals ((try clear hR1); first | (rw [withP_R c1]; try simp) | (rw [withP_A c2]; try simp) | (rw [withP_B c3]; try simp) | (rw [withP_N c4]; try simp) | (rw [withP_0 c1 c2 c3 c4]; try simp))
  ·intro c2
   refine zS [2, 3, 6, 7, 16] ?_
   refine zC ?_ ?_
   ·intro c3
    refine zS [3, 6] ?_
    intro ρ hL
    refine awl_nil (blk_normal (hR1 _ _ (.mk ?_)))
    revert ρ hL
    refine zS [6] ?_
    refine zR ?_
    try simp only [go_sem, simprocAttr]
    all_goals ((try clear hR1); first | (rw [withP_R c1]; try simp) | (rw [withP_A c2]; try simp) | (rw [withP_B c3]; try simp) | (rw [withP_N c4]; try simp) | (rw [withP_0 c1 c2 c3 c4]; try simp))
   ·intro c3
    refine zS [2, 3, 6, 20] ?_
    refine zC ?_ ?_
    ·intro c4
     refine zS [3, 6] ?_
     intro ρ hL
     refine awl_nil (blk_normal (hR1 _ _ (.mk ?_)))
     revert ρ hL
     refine zS [6] ?_
     refine zR ?_
     try simp only [go_sem, simprocAttr]
     all_goals ((try clear hR1); first | (rw [withP_R c1]; try simp) | (rw [withP_A c2]; try simp) | (rw [withP_B c3]; try simp) | (rw [withP_N c4]; try simp) | (rw [withP_0 c1 c2 c3 c4]; try simp))
    ·intro c4 ρ hL
     refine awl_skip (awl_nil (blk_normal (hR1 _ _ (.mk ?_))))
     revert ρ hL
     refine zS [6] ?_
     refine zR ?_
     try simp only [go_sem, simprocAttr]
     all_goals ((try clear hR1); first | (rw [withP_R c1]; try simp) | (rw [withP_A c2]; try simp) | (rw [withP_B c3]; try simp) | (rw [withP_N c4]; try simp) | (rw [withP_0 c1 c2 c3 c4]; try simp))
section
attribute [local go_sem] mk_bt bt_app bt_fits bt_size bt_ext bt_bat List.length_cons List.length_nil Int.toNat_zero
theorem sat_spec_l7Num (l : Bs) (hl : l.length ≤ 1048576) : Sat Tryz.prog 126 [.str (bt l)] [] (.int .i64 (numL l)) [] := by
 have hX := trivial
 refine sat_mk [.tmp 2] 0 59 Tryz.call126 Tryz.func126 Tryz.ntmps126 rfl rfl rfl rfl rfl ?_
 refine zI [0] ?_
 refine zS [0] ?_
 refine zS [0, 3] ?_
 intro ρ hL
 refine zA ?_
 intro K hK
 refine zL [0, 3, 8] ?_
 clear hL
 intro ρ hL
 refine grp_andN (v := ?v1) 8 rfl [0, 3] hL.2.2 rfl (fun hb K1 hK1 => ?run) (fun hb => skA (want := true) (b := _) (by rw [hb]; rfl) hL.2.2 rfl) (fun ρ hP hM => ?_)
 case run =>
  simp only [List.take_succ_cons, List.take_zero]
  rw [hb] at hL
  have hz : 0 < l.length := List.length_pos_iff.2 (fun e => by rw [e] at hb; simp at hb)
  have hs2 : (0 : Int) < (l.length : Int) := by omega
  have g2 := hL
  have hK1_2 := hK1
  try simp only [go_sem, simprocAttr, hL, hX, hs2, Int.le_refl]
  repeat' refine And.intro (by first | rfl | omega | (simp; done)) ?_
  refine awpS_live [0, 3, 8, 12] fun ρ hM => ?_
  try simp only [go_sem, simprocAttr, hL, hX, hs2, Int.le_refl] at hM
  clear hL
  have hL := hM
  clear hM
  refine grp_orGN (v := ?v3) 3 8 true rfl hL.2.2.1 [0, 3, 8] rfl hL.2.2.2 rfl (fun hb K1 hK1 => ?run) (fun hb => skA (want := false) (b := _) (by rw [hb]; rfl) hL.2.2.2 rfl) (fun ρ hP hM => ?_)
  case run =>
   simp only [List.take_succ_cons, List.take_zero]
   rw [hb] at hL
   try simp only [go_sem, simprocAttr, hL, hX, hs2, Int.le_refl, hs2, Int.le_refl]
   repeat' refine And.intro (by first | rfl | omega | (simp; done)) ?_
   refine hK1 _ ?_ ?_ ?_ <;> simp only [go_sem, simprocAttr, hL, hX, hs2, Int.le_refl, hs2, Int.le_refl] <;> exact rfl
  simp only [List.drop_succ_cons, List.drop_zero]
  try simp only [go_sem, simprocAttr, hL, hX, hs2, Int.le_refl] at hM
  replace hL := And.intro hP hM
  clear hP hM
  try simp only [go_sem, simprocAttr, hL, hX, hs2, Int.le_refl]
  repeat' refine And.intro (by first | rfl | omega | (simp; done)) ?_
  refine hK1_2 _ ?_ ?_ ?_ <;> simp only [go_sem, simprocAttr, hL, hX, hs2, Int.le_refl, g2] <;> exact rfl
 refine zPp ?_
 clear hL hP hM
 intro hL
 refine zE [0, 3, 17] ?_
 clear hK K hL
 intro ρ hL
 have j1 := hL
 refine awl_joinH (fun H0 σ G => (liveE [0] σ ρ ∧ σ 3 = .int .i64 (startN l : Int)) ∧ G = H0) ?inner1 (fun ρ G hJ => ?after1)
 case inner1 =>
  refine zN [0, 3, 17] ?_
  clear hL
  refine zC ?_ ?_
  ·intro c1
   refine zS [0, 3] ?_
   intro ρ hL
   refine awl_nil ?_
   show wkQ _ _ _ _
   refine .mk ⟨⟨(by simp only [go_sem, simprocAttr, hL, hX, j1]), (by rw [hL.2]; first | (rw [show startN l = 1 from if_pos ⟨fun e => c1.1 (by rw [e]), by omega⟩]; rfl) | (rw [show startN l = 0 from if_neg (fun h => c1.elim (fun e => h.1 (bt_inj.1 e)) (fun e => by omega))]; rfl))⟩, rfl⟩
  ·intro c1 ρ hL
   refine awl_skip (awl_nil ?_)
   show wkQ _ _ _ _
   refine .mk ⟨⟨(by simp only [go_sem, simprocAttr, hL, hX, j1]), (by rw [hL.2.1]; first | (rw [show startN l = 1 from if_pos ⟨fun e => c1.1 (by rw [e]), by omega⟩]; rfl) | (rw [show startN l = 0 from if_neg (fun h => c1.elim (fun e => h.1 (bt_inj.1 e)) (fun e => by omega))]; rfl))⟩, rfl⟩
 case after1 =>
  clear hL
  obtain ⟨hL, hG⟩ := hJ
  subst hG
  try simp only [go_sem, simprocAttr, j1, hX] at hL
  have hst := startN_le (l := l)
  revert ρ hL
  refine zS [0, 3, 4] ?_
  refine zS [0, 3, 4, 5] ?_
  intro ρ hL
  have e2 := hL
  refine awl_loopH (fun H0 n σ G => ∃ (k : Nat) (v : Nat), n = 3 - k ∧ (k ≤ 3) ∧ (scan0 (3 - k) (l.drop (startN l + k)) v = scan0 3 (l.drop (startN l)) 0) ∧ (v < 10 ^ k) ∧ (liveE [0, 3] σ ρ ∧ σ 4 = .int .i64 (v : Int) ∧ σ 5 = .int .i64 ((startN l + k : Nat) : Int)) ∧ G = H0) (fun H0 σ G => ∃ (v : Nat), (scan0 3 (l.drop (startN l)) 0 = some v) ∧ (v < 10000) ∧ (liveE [0, 3] σ ρ ∧ σ 4 = .int .i64 (v : Int)) ∧ G = H0) ((fun (k : Nat) (v : Nat) => 3 - k) 0  0) ?init2 (fun n ρ G hI => ?round2) (fun ρ G hJ => ?after2)
  case init2 => exact ⟨0, 0, rfl, (Nat.zero_le _), (rfl), (by decide), ⟨liveE_refl _ _, (hL.2.2.1), (hL.2.2.2)⟩, rfl⟩
  case round2 =>
   clear hL
   obtain ⟨k, v, hn, i2_0, i2_1, i2_2, hL, hG⟩ := hI
   subst hG
   try simp only [go_sem, simprocAttr, e2, hX] at hL
   have hw6 : IntKind.i64.wrap ((startN l : Int) + 3) = ((startN l + 3 : Nat) : Int) := by rw [wrap64 (by omega)]; omega
   have hX0 := hX
   replace hX := And.intro hw6 hX
   refine zA ?_
   intro K hK
   refine zL [0, 3, 4, 5, 23] ?_
   clear hL
   intro ρ hL
   refine grp_andN (v := ?v4) 4 rfl [0, 3, 4, 5] hL.2.2.2.2 rfl (fun hb K1 hK1 => ?run) (fun hb => skA (want := true) (b := _) (by rw [hb]; rfl) hL.2.2.2.2 rfl) (fun ρ hP hM => ?_)
   case run => exact zR1
   refine zPp ?_
   clear hL hP hM
   intro hL
   refine zE [0, 3, 4, 5, 28] ?_
   clear hK K hL
   clear hX
   have hX := hX0
   clear hX0
   refine zC ?_ ?_
   ·intro c2 ρ hL
    refine awl_skip (awl_seq (awl_block fun R1 hw1 hR1 => ?_))
    have hc2 : startN l + k < l.length ∧ k < 3 := by have h := c2; simp at h; omega
    have hz : startN l + k < l.length := by omega
    have hs1 : (0 : Int) ≤ ((startN l + k : Nat) : Int) := by omega
    have hs2 : ((startN l + k : Nat) : Int) < (l.length : Int) := by omega
    have hX0 := hX
    replace hX := And.intro hs1 (And.intro hs2 hX)
    refine zA ?_
    intro K hK
    refine zL [0, 3, 4, 5, 35] ?_
    clear hL
    intro ρ hL
    refine grp_orN (v := ?v5) 4 rfl [0, 3, 4, 5] hL.2.2.2.2 rfl (fun hb K1 hK1 => ?run) (fun hb => skA (want := false) (b := _) (by rw [hb]; rfl) hL.2.2.2.2 rfl) (fun ρ hP hM => ?_)
    case run =>
     simp only [List.take_succ_cons, List.take_zero]
     rw [hb] at hL
     try simp only [go_sem, simprocAttr, hL, hX, hs1, hs2]
     repeat' refine And.intro (by first | rfl | omega | (simp; done)) ?_
     refine hK1 _ ?_ ?_ ?_ <;> simp only [go_sem, simprocAttr, hL, hX, hs1, hs2] <;> exact rfl
    refine zPp ?_
    clear hL hP hM
    intro hL
    refine zE [0, 3, 4, 5, 40] ?_
    clear hK K hL
    clear hX
    have hX := hX0
    clear hX0
    refine zC ?_ ?_
    ·intro c3
     refine zS [2] ?_
     refine zR ?_
     try simp only [go_sem, simprocAttr]
     all_goals ((try clear hR1); have hq : numL l = 0 := (by rw [numL_is, ← i2_1, show 3 - k = 2 - k + 1 by omega, scan0_no hz (by omega)]); rw [hq])
    ·intro c3 ρ hL
     refine awl_skip ?_
     have hd : 48 ≤ (l.getD (startN l + k) 0).toNat ∧ (l.getD (startN l + k) 0).toNat ≤ 57 := by have h := c3; generalize (l.getD (startN l + k) 0).toNat = z at h ⊢; simp at h; omega
     have hv : v < 10000 := Nat.lt_of_lt_of_le i2_2 (Nat.pow_le_pow_right (by decide) (show k ≤ 4 by omega))
     have hv1 : IntKind.i64.wrap (10 * (v : Int)) = ((10 * v : Nat) : Int) := by rw [wrap64 (by omega)]; omega
     have hv2 : IntKind.i64.wrap (((l.getD (startN l + k) 0).toNat : Nat) : Int) = (((l.getD (startN l + k) 0).toNat : Nat) : Int) := wrap64 (by omega)
     have hv3 : IntKind.i64.wrap (((10 * v : Nat) : Int) + (((l.getD (startN l + k) 0).toNat : Nat) : Int)) = ((10 * v + (l.getD (startN l + k) 0).toNat : Nat) : Int) := by rw [wrap64 (by omega)]; omega
     have hv4 : IntKind.i64.wrap (((10 * v + (l.getD (startN l + k) 0).toNat : Nat) : Int) - 48) = ((10 * v + ((l.getD (startN l + k) 0).toNat - 48) : Nat) : Int) := by rw [wrap64 (by omega)]; omega
     revert ρ hL
     refine zSX [0, 3, 4, 5] (And.intro hs1 (And.intro hs2 (And.intro hv1 (And.intro hv2 (And.intro hv3 (And.intro hv4 hX)))))) ?_
     intro ρ hL
     refine awl_nil (blk_normal (hR1 _ _ (.mk ?_)))
     have hw7 : IntKind.i64.wrap (((startN l + k : Nat) : Int) + 1) = ((startN l + (k + 1) : Nat) : Int) := by rw [wrap64 (by omega)]; omega
     revert ρ hL
     refine zSX [0, 3, 4, 5] (And.intro hw7 hX) ?_
     intro ρ hL
     refine awl_nil ?_
     refine loop_again _ ?meas ⟨(k + 1), (10 * v + ((l.getD (startN l + k) 0).toNat - 48)), rfl, (by omega), (by rw [← i2_1, show 3 - k = 3 - (k + 1) + 1 by omega, scan0_go hz hd.1 hd.2, Nat.add_assoc]), (by rw [Nat.pow_succ]; omega), ⟨(by simp only [go_sem, simprocAttr, hL, hX, e2]), (hL.2.2.1), (hL.2.2.2)⟩, rfl⟩
     case meas => subst hn; omega
   ·intro c2 ρ hL
    refine awl_exit (loop_break ?_)
    exact ⟨v, (by rw [← i2_1, scan0_end (by have h := c2; simp at h; omega)]), (by exact Nat.lt_of_lt_of_le i2_2 (Nat.le_trans (Nat.pow_le_pow_right (by decide) i2_0) (by decide))), ⟨(by simp only [go_sem, simprocAttr, hL, hX, e2]), (hL.2.2.1)⟩, rfl⟩
  case after2 =>
   clear hL
   obtain ⟨v, j2_0, j2_1, hL, hG⟩ := hJ
   subst hG
   try simp only [go_sem, simprocAttr, e2, hX] at hL
   refine zA ?_
   intro K hK
   refine zL [0, 4, 51] ?_
   clear hL
   intro ρ hL
   refine grp_andN (v := ?v6) 3 rfl [4] hL.2.2 rfl (fun hb K1 hK1 => ?run) (fun hb => skA (want := true) (b := _) (by rw [hb]; rfl) hL.2.2 rfl) (fun ρ hP hM => ?_)
   case run =>
    simp only [List.take_succ_cons, List.take_zero]
    rw [hb] at hL
    have hz : 0 < l.length := startN_pos (by have := of_decide_eq_true hb; omega)
    have hs2 : (0 : Int) < (l.length : Int) := by omega
    try simp only [go_sem, simprocAttr, hL, hX, hs2, Int.le_refl]
    repeat' refine And.intro (by first | rfl | omega | (simp; done)) ?_
    refine hK1 _ ?_ ?_ ?_ <;> simp only [go_sem, simprocAttr, hL, hX, hs2, Int.le_refl] <;> exact rfl
   refine zPp ?_
   clear hL hP hM
   intro hL
   refine zE [4, 55] ?_
   clear hK K hL
   refine zC ?_ ?_
   ·intro c4
    have hw12 : IntKind.i64.wrap (0 - (v : Int)) = 0 - (v : Int) := wrap64 (by have := j2_1; omega)
    refine zSX [2] (And.intro hw12 hX) ?_
    refine zR ?_
    try simp only [go_sem, simprocAttr]
    all_goals ((try clear hR1); have hq : numL l = 0 - (v : Int) := (by rw [numL_is, j2_0]; show signN l v = _; rw [signN, if_pos ⟨by omega, by omega⟩]; omega); rw [hq])
   ·intro c4 ρ hL
    refine awl_skip ?_
    revert ρ hL
    refine zS [2] ?_
    refine zR ?_
    try simp only [go_sem, simprocAttr]
    all_goals ((try clear hR1); have hq : numL l = (v : Int) := (by rw [numL_is, j2_0]; show signN l v = _; rw [signN, if_neg (by omega)]); rw [hq])
end
section
attribute [local go_sem] mk_bt bt_app bt_fits bt_size bt_ext bt_bat List.length_cons List.length_nil Int.toNat_zero strsV_len strsV_take List.length_append
theorem sat_spec_l7Words (l : Bs) (hl : l.length ≤ 1048576) : Sat Tryz.prog 123 [.str (bt l)] [] (.slice 0 0 (wordsI l).length 0) [⟨1, strsV (wordsI l), true, false⟩] := by
 have hX := trivial
 refine sat_mk [.tmp 2] 0 33 Tryz.call123 Tryz.func123 Tryz.ntmps123 rfl rfl rfl rfl rfl ?_
 refine zI [0] ?_
 refine zS [0] ?_
 refine zS [0, 3] ?_
 intro ρ hL
 refine zA ?_
 intro K hK
 have h3 := hL.2
 refine hK _ _ ⟨_, _, (Wk.norm [1] (RefE.refl.upd (t := 3) (by simp only [go_sem, simprocAttr, h3]; first | done | rfl) (Ref.esl 0 ⟨Nat.le_refl _, Nat.lt_succ_self _⟩))), awl_live' [0, 3, 4] fun ρ hM => ?_⟩
 try simp only [go_sem, simprocAttr, hL, hX] at hM
 clear hK K h3 hL
 try simp only [go_sem, simprocAttr]
 revert ρ hM
 refine zS [0, 3, 4, 5] ?_
 intro ρ hL
 have e1 := hL
 refine awl_loopH (fun H0 n σ G => ∃ (D : List Bs) (a : Nat) (i : Nat), n = l.length + 1 - i ∧ (wIv l D a i) ∧ (i ≤ l.length + 1) ∧ (liveE [0] σ ρ ∧ σ 3 = .slice 0 0 D.length 0 ∧ σ 4 = .int .i64 (a : Int) ∧ σ 5 = .int .i64 (i : Int)) ∧ G = [⟨1, strsV D, true, false⟩]) (fun H0 σ G => ∃ (D : List Bs), (splitB 32 l = D) ∧ (σ 3 = .slice 0 0 D.length 0) ∧ G = [⟨1, strsV D, true, false⟩]) ((fun (D : List Bs) (a : Nat) (i : Nat) => l.length + 1 - i) []  0  0) ?init1 (fun n ρ G hI => ?round1) (fun ρ G hJ => ?after1)
 case init1 => exact ⟨[], 0, 0, rfl, (wIv_zero), (by omega), ⟨liveE_refl _ _, (hL.2.1), (hL.2.2.1), (hL.2.2.2)⟩, rfl⟩
 case round1 =>
  clear hL
  obtain ⟨D, a, i, hn, i1_0, i1_1, hL, hG⟩ := hI
  subst hG
  try simp only [go_sem, simprocAttr, e1, hX] at hL
  revert ρ hL
  refine zS [0, 3, 4, 5, 10] ?_
  refine zC ?_ ?_
  ·intro c1 ρ hL
   refine awl_skip (awl_seq (awl_block fun R1 hw1 hR1 => ?_))
   have hql : i ≤ l.length := by omega
   obtain ⟨hq2, hq3, hq4⟩ := wIv_get i1_0 hql
   refine zA ?_
   intro K hK
   refine zL [0, 3, 4, 5, 17] ?_
   clear hL
   intro ρ hL
   refine grp_orN (v := ?v1) 4 rfl [0, 3, 4, 5] hL.2.2.2.2 rfl (fun hb K1 hK1 => ?run) (fun hb => skA (want := false) (b := _) (by rw [hb]; rfl) hL.2.2.2.2 rfl) (fun ρ hP hM => ?_)
   case run =>
    simp only [List.take_succ_cons, List.take_zero]
    rw [hb] at hL
    have hz : i < l.length := by have := of_decide_eq_false hb; omega
    have hs1 : (0 : Int) ≤ (i : Int) := by omega
    have hs2 : (i : Int) < (l.length : Int) := by omega
    try simp only [go_sem, simprocAttr, hL, hX, hs1, hs2]
    repeat' refine And.intro (by first | rfl | omega | (simp; done)) ?_
    refine hK1 _ ?_ ?_ ?_ <;> simp only [go_sem, simprocAttr, hL, hX, hs1, hs2] <;> exact rfl
   refine zPp ?_
   clear hL hP hM
   intro hL
   refine zE [0, 3, 4, 5, 22] ?_
   clear hK K hL
   refine zC ?_ ?_
   ·intro c2
    have hga : (0 : Int) ≤ (a : Int) := by omega
    have hgb : (a : Int) ≤ (i : Int) := by omega
    have hgc : (i : Int) ≤ (l.length : Int) := by omega
    have hgd : (0 : Int) ≤ (i : Int) := by omega
    have hD := wIv_len i1_0
    refine zSX [0, 3, 5] (And.intro hga (And.intro hgb (And.intro hgc (And.intro hgd hX)))) ?_
    have hw9 : IntKind.i64.wrap ((i : Int) + 1) = ((i + 1 : Nat) : Int) := by rw [wrap64 (by omega)]; omega
    refine zSX [0, 3, 4, 5] (And.intro hw9 hX) ?_
    intro ρ hL
    refine awl_nil (blk_normal (hR1 _ _ (.mk ?_)))
    have hw9 : IntKind.i64.wrap ((i : Int) + 1) = ((i + 1 : Nat) : Int) := by rw [wrap64 (by omega)]; omega
    revert ρ hL
    refine zSX [0, 3, 4, 5] (And.intro hw9 hX) ?_
    intro ρ hL
    refine awl_nil ?_
    refine loop_againW (Wk.keep [2] rfl) _ ?meas ⟨(D ++ [((l.take i).drop a)]), (i + 1), (i + 1), rfl, (by exact wIv_cut i1_0 hql (by omega)), (by omega), ⟨(by simp only [go_sem, simprocAttr, hL, hX, e1]), (by simp only [go_sem, simprocAttr, hL, hX, e1]; first | done | rfl), (by simp only [go_sem, simprocAttr, hL, hX, e1]; first | done | rfl), (by simp only [go_sem, simprocAttr, hL, hX, e1]; first | done | rfl)⟩, (by simp only [go_sem, simprocAttr, hL, hX, e1]; rw [strsV_app]; rfl)⟩
    case meas => subst hn; omega
   ·intro c2 ρ hL
    refine awl_skip (awl_nil (blk_normal (hR1 _ _ (.mk ?_))))
    have hw9 : IntKind.i64.wrap ((i : Int) + 1) = ((i + 1 : Nat) : Int) := by rw [wrap64 (by omega)]; omega
    revert ρ hL
    refine zSX [0, 3, 4, 5] (And.intro hw9 hX) ?_
    intro ρ hL
    refine awl_nil ?_
    refine loop_againW (Wk.keep [0] rfl) _ ?meas ⟨D, a, (i + 1), rfl, (by exact wIv_on i1_0 (by omega) (by omega)), (by omega), ⟨(by simp only [go_sem, simprocAttr, hL, hX, e1]), (by simp only [go_sem, simprocAttr, hL, hX, e1]; first | done | rfl), (by simp only [go_sem, simprocAttr, hL, hX, e1]; first | done | rfl), (by simp only [go_sem, simprocAttr, hL, hX, e1]; first | done | rfl)⟩, (by simp only [go_sem, simprocAttr, hL, hX, e1]; first | done | rfl)⟩
    case meas => subst hn; omega
  ·intro c1 ρ hL
   refine awl_exit (loop_break ?_)
   exact ⟨D, (by exact wIv_end i1_0 (by omega)), (hL.2.1), rfl⟩
 case after1 =>
  clear hL
  obtain ⟨D, j1_0, hL, hG⟩ := hJ
  subst hG
  revert ρ hL
  refine zS [2] ?_
  refine zK [0] [0] ?_ ?_
  all_goals try simp only [go_sem, simprocAttr, hX]
  all_goals ((try clear hR1); rw [wordsI, j1_0])
end
end Go.Proofs.YtgpjgljgplngpaaGreatDoor.AM
