/- What a line of a desk says: words and numbers. No conditions but those each theorem bears. -/
import Derived.Test.YtgpjgljgplngpaaGreatDoorFa
import Derived.Test.YtgpjgljgplngpaaGreatDoorCa86
import Derived.Test.YtgpjgljgplngpaaGreatDoorCa71
import Derived.Test.YtgpjgljgplngpaaGreatDoorCa72
import Derived.Test.YtgpjgljgplngpaaGreatDoorX3
set_option linter.unusedSimpArgs false
set_option linter.unusedVariables false
namespace Go.Proofs.YtgpjgljgplngpaaGreatDoor.AM
open Go
set_option maxHeartbeats 8000000
set_option maxRecDepth 100000
theorem sat_impl_yesNo (b : Bool) (x : Bs) (y : Bs)  : Sat Tryz.prog 100 [.bool b, .str (bt x), .str (bt y)] [] (.str (bt (yesNo b x y))) [] := by
 have hX := trivial
 refine sat_mk [.tmp 6] 0 10 Tryz.call100 Tryz.func100 Tryz.ntmps100 rfl rfl rfl rfl rfl ?_
 refine zI [0, 1, 2] ?_
 refine zS [0, 1, 2] ?_
 refine zS [1, 2, 7] ?_
 refine zC ?_ ?_
 ·intro c1
  refine zS [6] ?_
  refine zR ?_
  try simp only [go_sem, simprocAttr]
  all_goals (rw [yesNo, if_pos c1])
 ·intro c1 ρ hL
  refine awl_skip ?_
  revert ρ hL
  refine zS [6] ?_
  refine zR ?_
  try simp only [go_sem, simprocAttr]
  all_goals (simp [yesNo, c1])
section
attribute [local go_sem] mk_bt bt_app bt_fits bt_size bt_ext bt_bat List.length_cons List.length_nil List.take_length
theorem sat_impl_deskNumber (l : Bs) (hl : l.length ≤ 1048576) : Sat Tryz.prog 102 [.str (bt l)] [] (.tuple [.int .i64 (dskNum l).1, .bool (dskNum l).2]) [] := by
 have hX := trivial
 refine sat_mk [.tmp 2, .tmp 3] 0 29 Tryz.call102 Tryz.func102 Tryz.ntmps102 rfl rfl rfl rfl rfl ?_
 refine zI [0] ?_
 refine zS [0] ?_
 refine zSF [0, 4, 5] (sat_strconv_Atoi l (by omega)) ?_
 have q0 := errV_neq (P := Tryz.prog) (t := 159) (b := (atoV l).2) tif159
 intro ρ hL
 simp only [go_sem, simprocAttr] at q0
 have g0 := errV_gOk (x := .tmp 11) (c := .nilIface) (b := (atoV l).2)
 simp only [go_sem, simprocAttr] at g0
 repeat refine awl_seq ?_
 refine awl_regS _ rfl fun K hK => ?_
 try simp only [go_sem, simprocAttr, hL, hX, q0, g0]
 repeat' refine And.intro (by first | rfl | omega | (simp; done)) ?_
 refine awpS_live [0, 4, 13] fun ρ hM => ?_
 try simp only [go_sem, simprocAttr, hL, hX, q0, g0] at hM
 clear hL
 have hL := hM
 clear hM
 refine grp_orN (v := ?v1) 3 rfl [0, 4] hL.2.2 rfl (fun hb K1 hK1 => ?run) (fun hb => skA (want := false) (b := _) (by rw [hb]; rfl) hL.2.2 rfl) (fun ρ hP hM => ?_)
 case run =>
  simp only [List.take_succ_cons, List.take_zero]
  rw [hb] at hL
  try simp only [go_sem, simprocAttr, hL, hX, q0, g0]
  repeat' refine And.intro (by first | rfl | omega | (simp; done)) ?_
  refine hK1 _ ?_ ?_ ?_ <;> simp only [go_sem, simprocAttr, hL, hX, q0, g0] <;> exact rfl
 simp only [List.drop_succ_cons, List.drop_zero]
 try simp only [go_sem, simprocAttr, hL, hX, q0, g0] at hM
 replace hL := And.intro hP hM
 clear hP hM
 try simp only [go_sem, simprocAttr, hL, hX, q0, g0]
 repeat' refine And.intro (by first | rfl | omega | (simp; done)) ?_
 refine awpS_live [0, 4, 18] fun ρ hM => ?_
 try simp only [go_sem, simprocAttr, hL, hX, q0, g0] at hM
 clear hL
 have hL := hM
 clear hM
 refine grp_orN (v := ?v2) 2 rfl [0, 4] hL.2.2 rfl (fun hb K1 hK1 => ?run) (fun hb => skA (want := false) (b := _) (by rw [hb]; rfl) hL.2.2 rfl) (fun ρ hP hM => ?_)
 case run =>
  simp only [List.take_succ_cons, List.take_zero]
  rw [hb] at hL
  try simp only [go_sem, simprocAttr, hL, hX, q0, g0]
  repeat' refine And.intro (by first | rfl | omega | (simp; done)) ?_
  refine hK1 _ ?_ ?_ ?_ <;> simp only [go_sem, simprocAttr, hL, hX, q0, g0] <;> exact rfl
 simp only [List.drop_succ_cons, List.drop_zero]
 try simp only [go_sem, simprocAttr, hL, hX, q0, g0] at hM
 replace hL := And.intro hP hM
 clear hP hM
 try simp only [go_sem, simprocAttr, hL, hX, q0, g0]
 repeat' refine And.intro (by first | rfl | omega | (simp; done)) ?_
 refine awpS_live [0, 4, 22] fun ρ hM => ?_
 try simp only [go_sem, simprocAttr, hL, hX, q0, g0] at hM
 clear hL
 have hL := hM
 clear hM
 refine grp_orN (v := ?v3) 4 rfl [4] hL.2.2 rfl (fun hb K1 hK1 => ?run) (fun hb => skA (want := false) (b := _) (by rw [hb]; rfl) hL.2.2 rfl) (fun ρ hP hM => ?_)
 case run =>
  simp only [List.take_succ_cons, List.take_zero]
  rw [hb] at hL
  try simp only [go_sem, simprocAttr, hL, hX, q0, g0]
  repeat' refine And.intro (by first | rfl | omega | (simp; done)) ?_
  refine opS_call_ro rfl (sat_strconv_Itoa (atoV l).1 (atoV_rng l)) ?ha ?hv ?hh ?_
  case ha => simp only [go_sem, simprocAttr, hL, hX, q0, g0]; first | done | rfl
  case hv => first | rfl | (simp only [go_sem]; done)
  case hh => first | rfl | (simp only [go_sem]; done)
  try simp only [go_sem, simprocAttr, hL, hX, q0, g0]
  repeat' refine And.intro (by first | rfl | omega | (simp; done)) ?_
  refine hK1 _ ?_ ?_ ?_ <;> simp only [go_sem, simprocAttr, hL, hX, q0, g0] <;> exact rfl
 simp only [List.drop_succ_cons, List.drop_zero]
 try simp only [go_sem, simprocAttr, hL, hX, q0, g0] at hM
 replace hL := And.intro hP hM
 clear hP hM
 try simp only [go_sem, simprocAttr, hL, hX, q0, g0]
 repeat' refine And.intro (by first | rfl | omega | (simp; done)) ?_
 refine hK _ _ (.mk (awl_live' [4, 27] fun ρ hM => ?_))
 try simp only [go_sem, simprocAttr, hL, hX, q0, g0] at hM
 clear hK K hL
 revert ρ hM
 refine zC ?_ ?_
 ·intro c1
  refine zS [2, 3] ?_
  refine zR ?_
  try simp only [go_sem, simprocAttr]
  all_goals (rw [num_off c1])
 ·intro c1 ρ hL
  refine awl_skip ?_
  revert ρ hL
  refine zS [2, 3] ?_
  refine zR ?_
  try simp only [go_sem, simprocAttr]
  all_goals (rw [num_on c1])
end
section
attribute [local go_sem] mk_bt bt_app bt_fits bt_size bt_ext bt_bat List.length_cons List.length_nil List.take_length
theorem sat_spec_l20Num (l : Bs) (w : Bs) (hl : l.length ≤ 1048576) (hw : w.length ≤ 8) : Sat Tryz.prog 108 [.str (bt l), .str (bt w)] [] (.int .i64 (numW l w)) [] := by
 have hX := trivial
 refine sat_mk [.tmp 4] 0 69 Tryz.call108 Tryz.func108 Tryz.ntmps108 rfl rfl rfl rfl rfl ?_
 refine zI [0, 1] ?_
 refine zS [0, 1] ?_
 refine zS [0, 1, 5] ?_
 have hw2 : IntKind.i64.wrap ((w.length : Int) + 2) = ((w.length + 2 : Nat) : Int) := by rw [wrap64 (by omega)]; omega
 have hw3 : IntKind.i64.wrap ((w.length : Int) + 3) = ((w.length + 3 : Nat) : Int) := by rw [wrap64 (by omega)]; omega
 have hw0 : (0 : Int) ≤ (w.length : Int) := by omega
 have hX0 := hX
 replace hX := And.intro hw2 (And.intro hw3 (And.intro hw0 hX))
 intro ρ hL
 refine zA ?_
 intro K hK
 refine zL [0, 1, 5, 15] ?_
 clear hL
 intro ρ hL
 refine grp_orN (v := ?v1) 5 rfl [0, 1, 5] hL.2.2.2 rfl (fun hb K1 hK1 => ?run) (fun hb => skA (want := false) (b := _) (by rw [hb]; rfl) hL.2.2.2 rfl) (fun ρ hP hM => ?_)
 case run => exact zR1
 refine zPp ?_
 clear hL hP hM
 intro hL
 refine zL [0, 1, 5, 22] ?_
 clear hL
 intro ρ hL
 refine grp_orN (v := ?v2) 5 rfl [0, 5] hL.2.2.2 rfl (fun hb K1 hK1 => ?run) (fun hb => skA (want := false) (b := _) (by rw [hb]; rfl) hL.2.2.2 rfl) (fun ρ hP hM => ?_)
 case run =>
  simp only [List.take_succ_cons, List.take_zero]
  rw [hb] at hL
  have hg1 : (w.length : Int) ≤ (l.length : Int) := by have := hb; simp at this; omega
  try simp only [go_sem, simprocAttr, hL, hX, hg1]
  repeat' refine And.intro (by first | rfl | omega | (simp; done)) ?_
  refine hK1 _ ?_ ?_ ?_ <;> simp only [go_sem, simprocAttr, hL, hX, hg1] <;> exact rfl
 refine zPp ?_
 clear hL hP hM
 intro hL
 refine zL [0, 5, 29] ?_
 clear hL
 intro ρ hL
 refine grp_orN (v := ?v3) 4 rfl [0, 5] hL.2.2 rfl (fun hb K1 hK1 => ?run) (fun hb => skA (want := false) (b := _) (by rw [hb]; rfl) hL.2.2 rfl) (fun ρ hP hM => ?_)
 case run =>
  simp only [List.take_succ_cons, List.take_zero]
  rw [hb] at hL
  have hg2 : (w.length : Int) < (l.length : Int) := by have := hb; simp at this; omega
  try simp only [go_sem, simprocAttr, hL, hX, hg2]
  repeat' refine And.intro (by first | rfl | omega | (simp; done)) ?_
  refine hK1 _ ?_ ?_ ?_ <;> simp only [go_sem, simprocAttr, hL, hX, hg2] <;> exact rfl
 refine zPp ?_
 clear hL hP hM
 intro hL
 refine zE [0, 5, 34] ?_
 clear hK K hL
 clear hX
 have hX := hX0
 clear hX0
 refine zC ?_ ?_
 ·intro c1
  refine zS [4] ?_
  refine zR ?_
  try simp only [go_sem, simprocAttr]
  all_goals (rw [numW_no (nw_yes c1)])
 ·intro c1 ρ hL
  refine awl_skip ?_
  revert ρ hL
  refine zS [0, 5, 6] ?_
  have hnc := nw_not c1
  have hlo : w.length + 2 ≤ l.length := by have := hnc; omega
  have hhi : l.length ≤ w.length + 3 := by have := hnc; omega
  have hw5 : IntKind.i64.wrap ((w.length : Int) + 1) = ((w.length + 1 : Nat) : Int) := by rw [wrap64 (by omega)]; omega
  refine zSX [0, 5, 6, 7] (And.intro hw5 hX) ?_
  intro ρ hL
  have e1 := hL
  refine awl_loopH (fun H0 n σ G => ∃ (i : Nat) (x : Nat), n = l.length - i ∧ (scanW (l.drop i) x = scanW (l.drop (w.length + 1)) 0) ∧ (w.length + 1 ≤ i ∧ i ≤ l.length) ∧ (x < 10 ^ (i - (w.length + 1))) ∧ (liveE [0, 5] σ ρ ∧ σ 6 = .int .i64 (x : Int) ∧ σ 7 = .int .i64 (i : Int)) ∧ G = H0) (fun H0 σ G => ∃ (x : Nat), (scanW (l.drop (w.length + 1)) 0 = some x) ∧ (x < 1000) ∧ (liveE [0, 5] σ ρ ∧ σ 6 = .int .i64 (x : Int)) ∧ G = H0) ((fun (i : Nat) (x : Nat) => l.length - i) (w.length + 1)  0) ?init1 (fun n ρ G hI => ?round1) (fun ρ G hJ => ?after1)
  case init1 => exact ⟨(w.length + 1), 0, rfl, (rfl), (⟨Nat.le_refl _, by omega⟩), (by simp), ⟨liveE_refl _ _, (hL.2.2.1), (hL.2.2.2)⟩, rfl⟩
  case round1 =>
   clear hL
   obtain ⟨i, x, hn, i1_0, i1_1, i1_2, hL, hG⟩ := hI
   subst hG
   try simp only [go_sem, simprocAttr, e1, hX] at hL
   revert ρ hL
   refine zS [0, 5, 6, 7, 40] ?_
   refine zC ?_ ?_
   ·intro c2 ρ hL
    refine awl_skip (awl_seq (awl_block fun R1 hw1 hR1 => ?_))
    have hz : i < l.length := by omega
    have hs1 : (0 : Int) ≤ (i : Int) := by omega
    have hs2 : (i : Int) < (l.length : Int) := by omega
    have hX0 := hX
    replace hX := And.intro hs1 (And.intro hs2 hX)
    refine zA ?_
    intro K hK
    refine zL [0, 5, 6, 7, 47] ?_
    clear hL
    intro ρ hL
    refine grp_orN (v := ?v4) 4 rfl [0, 5, 6, 7] hL.2.2.2.2 rfl (fun hb K1 hK1 => ?run) (fun hb => skA (want := false) (b := _) (by rw [hb]; rfl) hL.2.2.2.2 rfl) (fun ρ hP hM => ?_)
    case run =>
     simp only [List.take_succ_cons, List.take_zero]
     rw [hb] at hL
     try simp only [go_sem, simprocAttr, hL, hX, hs1, hs2]
     repeat' refine And.intro (by first | rfl | omega | (simp; done)) ?_
     refine hK1 _ ?_ ?_ ?_ <;> simp only [go_sem, simprocAttr, hL, hX, hs1, hs2] <;> exact rfl
    refine zPp ?_
    clear hL hP hM
    intro hL
    refine zE [0, 5, 6, 7, 52] ?_
    clear hK K hL
    clear hX
    have hX := hX0
    clear hX0
    refine zC ?_ ?_
    ·intro c3
     refine zS [4] ?_
     refine zR ?_
     try simp only [go_sem, simprocAttr]
     all_goals ((try clear hR1); rw [numW_none hnc (by rw [← i1_0, scanW_no hz (by have h := c3; unfold digit; generalize (l.getD i 0).toNat = z at h ⊢; simp at h; omega)])])
    ·intro c3 ρ hL
     refine awl_skip ?_
     have hd : 48 ≤ (l.getD i 0).toNat ∧ (l.getD i 0).toNat ≤ 57 := by have h := c3; generalize (l.getD i 0).toNat = z at h ⊢; simp at h; omega
     have hv : x < 100 := Nat.lt_of_lt_of_le i1_2 (Nat.pow_le_pow_right (by decide) (show i - (w.length + 1) ≤ 2 by omega))
     have hv1 : IntKind.i64.wrap (10 * (x : Int)) = ((10 * x : Nat) : Int) := by rw [wrap64 (by omega)]; omega
     have hv2 : IntKind.i64.wrap (((l.getD i 0).toNat : Nat) : Int) = (((l.getD i 0).toNat : Nat) : Int) := wrap64 (by omega)
     have hv3 : IntKind.i64.wrap (((10 * x : Nat) : Int) + (((l.getD i 0).toNat : Nat) : Int)) = ((10 * x + (l.getD i 0).toNat : Nat) : Int) := by rw [wrap64 (by omega)]; omega
     have hv4 : IntKind.i64.wrap (((10 * x + (l.getD i 0).toNat : Nat) : Int) - 48) = ((10 * x + ((l.getD i 0).toNat - 48) : Nat) : Int) := by rw [wrap64 (by omega)]; omega
     revert ρ hL
     refine zSX [0, 5, 6, 7] (And.intro hs1 (And.intro hs2 (And.intro hv1 (And.intro hv2 (And.intro hv3 (And.intro hv4 hX)))))) ?_
     intro ρ hL
     refine awl_nil (blk_normal (hR1 _ _ (.mk ?_)))
     have hw7 : IntKind.i64.wrap ((i : Int) + 1) = ((i + 1 : Nat) : Int) := by rw [wrap64 (by omega)]; omega
     revert ρ hL
     refine zSX [0, 5, 6, 7] (And.intro hw7 hX) ?_
     intro ρ hL
     refine awl_nil ?_
     refine loop_again _ ?meas ⟨(i + 1), (10 * x + ((l.getD i 0).toNat - 48)), rfl, (by rw [← i1_0, scanW_go hz hd]), (by omega), (by rw [show i + 1 - (w.length + 1) = i - (w.length + 1) + 1 by omega, Nat.pow_succ]; omega), ⟨(by simp only [go_sem, simprocAttr, hL, hX, e1]), (hL.2.2.1), (hL.2.2.2)⟩, rfl⟩
     case meas => subst hn; omega
   ·intro c2 ρ hL
    refine awl_exit (loop_break ?_)
    exact ⟨x, (by rw [← i1_0, scanW_end (by omega)]), (by exact Nat.lt_of_lt_of_le i1_2 (Nat.pow_le_pow_right (by decide) (show i - (w.length + 1) ≤ 3 by omega))), ⟨(by simp only [go_sem, simprocAttr, hL, hX, e1]), (hL.2.2.1)⟩, rfl⟩
  case after1 =>
   clear hL
   obtain ⟨x, j1_0, j1_1, hL, hG⟩ := hJ
   subst hG
   try simp only [go_sem, simprocAttr, e1, hX] at hL
   have hg5 : (0 : Int) ≤ ((w.length + 1 : Nat) : Int) := by omega
   have hg6 : ((w.length + 1 : Nat) : Int) ≤ (l.length : Int) := by omega
   have hX0 := hX
   replace hX := And.intro hw5 (And.intro hg5 (And.intro hg6 hX))
   refine zAD [0, 1, 0, 0, 8, 28, 63] ?_
   intro K hK
   refine zFD [0, 1, 0, 0, 8, 28, 63] (sat_spec_l7Digits (x : Int) (by have := j1_1; omega)) ?_
   refine zE [6, 67] ?_
   clear hK K hL
   clear hX
   have hX := hX0
   clear hX0
   refine zC ?_ ?_
   ·intro c4
    refine zS [4] ?_
    refine zR ?_
    try simp only [go_sem, simprocAttr]
    all_goals ((try clear hR1); rw [numW_some hnc j1_0, if_neg (fun e => c4 (by rw [e]))])
   ·intro c4 ρ hL
    refine awl_skip ?_
    revert ρ hL
    refine zS [4] ?_
    refine zR ?_
    try simp only [go_sem, simprocAttr]
    all_goals ((try clear hR1); rw [numW_some hnc j1_0, if_pos (bt_inj.1 (by simpa using c4))])
end
section
attribute [local go_sem] mk_bt bt_app bt_fits
theorem sat_spec_l20Pick (l : Bs) (hl : l.length ≤ 1048576) : Sat Tryz.prog 50 [.str (bt l)] [] (.tuple [.agg (pickS2 l).1.cells, .bool (pickS2 l).2]) [] := by
 have hX := trivial
 refine sat_mk [.cell 2 81, .tmp 3] 0 24 Tryz.call50 Tryz.func50 Tryz.ntmps50 rfl rfl rfl rfl rfl ?_
 refine zI [0] ?_
 refine zS [0, 2] ?_
 refine zS [0, 2, 5] ?_
 intro ρ hL
 refine awl_block fun R1 hw1 hR1 => ?_
 revert ρ hL
 refine zS [0, 2, 5, 6] ?_
 refine zC ?_ ?_
 ·intro c1
  refine zS [2, 3] ?_
  refine zR ?_
  try simp only [go_sem, simprocAttr]
  all_goals ((try clear hR1); rw [pickS2, if_pos (show l = wPull from bt_inj.1 c1)]; try rfl)
 ·intro c1
  refine zS [0, 2, 9] ?_
  refine zC ?_ ?_
  ·intro c2
   refine zS [2, 3] ?_
   refine zR ?_
   try simp only [go_sem, simprocAttr]
   all_goals ((try clear hR1); rw [pickS2, if_neg (fun e => c1 (by rw [e]; rfl)), if_pos (show l = wCommit from bt_inj.1 c2)]; try rfl)
  ·intro c2 ρ hL
   refine awl_skip (awl_nil (blk_normal (hR1 _ _ (.mk ?_))))
   revert ρ hL
   refine zSF [0, 2, 4] (sat_spec_l20Num l wDo hl (by decide)) ?_
   refine zS [0, 2, 4, 15] ?_
   refine zC ?_ ?_
   ·intro c3
    refine zS [2, 3] ?_
    refine zR ?_
    try simp only [go_sem, simprocAttr]
    all_goals ((try clear hR1); rw [pickS2, if_neg (fun e => c1 (by rw [e]; rfl)), if_neg (fun e => c2 (by rw [e]; rfl)), if_pos c3]; try rfl)
   ·intro c3 ρ hL
    refine awl_skip ?_
    revert ρ hL
    refine zSF [2, 4] (sat_spec_l20Num l wSweep hl (by decide)) ?_
    refine zS [2, 3] ?_
    refine zR ?_
    try simp only [go_sem, simprocAttr]
    all_goals ((try clear hR1); rw [pickS2, if_neg (fun e => c1 (by rw [e]; rfl)), if_neg (fun e => c2 (by rw [e]; rfl)), if_neg c3]; try rfl)
end
end Go.Proofs.YtgpjgljgplngpaaGreatDoor.AM
