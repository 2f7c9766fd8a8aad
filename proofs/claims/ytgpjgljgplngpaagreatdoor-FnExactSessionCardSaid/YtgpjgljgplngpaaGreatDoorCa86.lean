/- Rows of commands read. No conditions but those each theorem bears. -/
import Derived.Test.YtgpjgljgplngpaaGreatDoorFa
import Derived.Test.YtgpjgljgplngpaaGreatDoorCa85
import Derived.Test.YtgpjgljgplngpaaGreatDoorCa72
set_option linter.unusedSimpArgs false
set_option linter.unusedVariables false
namespace Go.Proofs.YtgpjgljgplngpaaGreatDoor.AM
open Go
set_option maxHeartbeats 8000000
set_option maxRecDepth 100000
section
attribute [local go_sem] mk_bt bt_app bt_fits bt_size bt_ext bt_bat List.length_cons List.length_nil Int.toNat_zero List.length_append
theorem sat_spec_CodeRead (l : Bs) (hl : l.length ≤ 1048576) : Sat Tryz.prog 24 [.str (bt l)] [] (.tuple [.slice 0 0 (codeRead l).1.length 0, .bool (codeRead l).2]) [⟨5, rows (codeRead l).1, true, false⟩] := by
 have hX := trivial
 refine sat_mk [.tmp 2, .tmp 3] 0 47 Tryz.call24 Tryz.func24 Tryz.ntmps24 rfl rfl rfl rfl rfl ?_
 refine zI [0] ?_
 refine zS [0] ?_
 refine zS [0, 4] ?_
 intro ρ hL
 refine zA ?_
 intro K hK
 have h4 := hL.2
 refine hK _ _ ⟨_, _, (Wk.norm [5] (RefE.refl.upd (t := 4) (by simp only [go_sem, simprocAttr, h4]; first | done | rfl) (Ref.esl 0 ⟨Nat.le_refl _, Nat.lt_succ_self _⟩))), awl_live' [0, 4, 5] fun ρ hM => ?_⟩
 try simp only [go_sem, simprocAttr, hL, hX] at hM
 clear hK K h4 hL
 try simp only [go_sem, simprocAttr]
 revert ρ hM
 refine zS [0, 4, 5, 6] ?_
 intro ρ hL
 have e1 := hL
 refine awl_loopH (fun H0 n σ G => ∃ (D : List Ins) (a : Nat) (i : Nat), n = l.length - i ∧ (codeSG (l.drop i) ((l.take i).drop a) D = codeSG l [] []) ∧ (a ≤ i ∧ i ≤ l.length ∧ D.length ≤ i) ∧ (liveE [0] σ ρ ∧ σ 4 = .slice 0 0 D.length 0 ∧ σ 5 = .int .i64 (a : Int) ∧ σ 6 = .int .i64 (i : Int)) ∧ G = [⟨5, rows D, true, false⟩]) (fun H0 σ G => ∃ (D : List Ins), (codeSG l [] [] = some D) ∧ (D.length ≤ 1048576) ∧ (liveE [0] σ ρ ∧ σ 4 = .slice 0 0 D.length 0) ∧ G = [⟨5, rows D, true, false⟩]) ((fun (D : List Ins) (a : Nat) (i : Nat) => l.length - i) []  0  0) ?init1 (fun n ρ G hI => ?round1) (fun ρ G hJ => ?after1)
 case init1 => exact ⟨[], 0, 0, rfl, (rfl), (⟨Nat.le_refl _, Nat.zero_le _, Nat.le_refl _⟩), ⟨liveE_refl _ _, (hL.2.1), (hL.2.2.1), (hL.2.2.2)⟩, rfl⟩
 case round1 =>
  clear hL
  obtain ⟨D, a, i, hn, i1_0, i1_1, hL, hG⟩ := hI
  subst hG
  try simp only [go_sem, simprocAttr, e1, hX] at hL
  revert ρ hL
  refine zS [0, 4, 5, 6, 13] ?_
  refine zC ?_ ?_
  ·intro c1 ρ hL
   refine awl_skip (awl_seq (awl_block fun R1 hw1 hR1 => ?_))
   have hz : i < l.length := by omega
   have hs1 : (0 : Int) ≤ (i : Int) := by omega
   have hs2 : (i : Int) < (l.length : Int) := by omega
   revert ρ hL
   refine zSX [0, 4, 5, 6, 19] (And.intro hs1 (And.intro hs2 hX)) ?_
   refine zC ?_ ?_
   ·intro c2
    have hga : (0 : Int) ≤ (a : Int) := by omega
    have hgb : (a : Int) ≤ (i : Int) := by omega
    have hgc : (i : Int) ≤ (l.length : Int) := by omega
    refine zSFX [0, 4, 6, 7, 8] (sat_spec_InsRead ((l.take i).drop a) (by rw [List.length_drop, List.length_take]; omega)) (And.intro hga (And.intro hgb (And.intro hgc (And.intro hs1 hX)))) ?_
    refine zS [0, 4, 6, 7, 29] ?_
    refine zC ?_ ?_
    ·intro c3
     refine zS [2, 3] ?_
     intro ρ hL
     refine awl_ret ?_
     refine blk_ret ?_
     refine loop_ret ?_
     refine retN (v := .tuple [.esl, .bool false]) [5] [2] [2] rfl (by simp only [go_sem, simprocAttr, hL, hX]; exact rfl) (by first | rfl | (simp only [go_sem, simprocAttr, hL, hX]; first | done | rfl)) (Ref.tuple (RefL.cons (Ref.esl 2 ⟨Nat.le_of_ble_eq_true rfl, Nat.le_of_ble_eq_true rfl⟩) (RefL.same _))) rfl (by decide) rfl rfl ?_ ?_
     all_goals try simp only [go_sem, simprocAttr, hL, hX]
     all_goals ((try clear hR1); rw [crS_none (by rw [← i1_0, cSG_no hz (by omega) (by simpa using c3)])]; try rfl)
    ·intro c3 ρ hL
     refine awl_skip ?_
     revert ρ hL
     refine zS [0, 4, 6] ?_
     have hw9 : IntKind.i64.wrap ((i : Int) + 1) = ((i + 1 : Nat) : Int) := by rw [wrap64 (by omega)]; omega
     refine zSX [0, 4, 5, 6] (And.intro hw9 hX) ?_
     intro ρ hL
     refine awl_nil (blk_normal (hR1 _ _ (.mk ?_)))
     have hw9 : IntKind.i64.wrap ((i : Int) + 1) = ((i + 1 : Nat) : Int) := by rw [wrap64 (by omega)]; omega
     revert ρ hL
     refine zSX [0, 4, 5, 6] (And.intro hw9 hX) ?_
     intro ρ hL
     refine awl_nil ?_
     refine loop_againW (Wk.keep [3] rfl) _ ?meas ⟨(D ++ [(insRead ((l.take i).drop a)).1]), (i + 1), (i + 1), rfl, (by rw [← cSG_line hz (by omega) (by simpa using c3)]; exact i1_0), (by simp only [List.length_append, List.length_cons, List.length_nil]; omega), ⟨(by simp only [go_sem, simprocAttr, hL, hX, e1]), (by simp only [go_sem, simprocAttr, hL, hX, e1]; first | done | rfl), (by simp only [go_sem, simprocAttr, hL, hX, e1]; first | done | rfl), (by simp only [go_sem, simprocAttr, hL, hX, e1]; first | done | rfl)⟩, (by simp only [go_sem, simprocAttr, hL, hX, e1]; rw [rows_append, rows_one]; rfl)⟩
     case meas => subst hn; omega
   ·intro c2 ρ hL
    refine awl_skip (awl_nil (blk_normal (hR1 _ _ (.mk ?_))))
    have hw9 : IntKind.i64.wrap ((i : Int) + 1) = ((i + 1 : Nat) : Int) := by rw [wrap64 (by omega)]; omega
    revert ρ hL
    refine zSX [0, 4, 5, 6] (And.intro hw9 hX) ?_
    intro ρ hL
    refine awl_nil ?_
    refine loop_againW (Wk.keep [0] rfl) _ ?meas ⟨D, a, (i + 1), rfl, (by rw [← cSG_on i1_1.1 hz (by omega)]; exact i1_0), (by omega), ⟨(by simp only [go_sem, simprocAttr, hL, hX, e1]), (by simp only [go_sem, simprocAttr, hL, hX, e1]; first | done | rfl), (by simp only [go_sem, simprocAttr, hL, hX, e1]; first | done | rfl), (by simp only [go_sem, simprocAttr, hL, hX, e1]; first | done | rfl)⟩, (by simp only [go_sem, simprocAttr, hL, hX, e1]; first | done | rfl)⟩
    case meas => subst hn; omega
  ·intro c1 ρ hL
   refine awl_exit (loop_break ?_)
   exact ⟨D, (by rw [← i1_0, cSG_end (by omega)]), (by omega), ⟨(by simp only [go_sem, simprocAttr, hL, hX, e1]), (hL.2.1)⟩, rfl⟩
 case after1 =>
  clear hL
  obtain ⟨D, j1_0, j1_1, hL, hG⟩ := hJ
  subst hG
  try simp only [go_sem, simprocAttr, e1, hX] at hL
  refine zA ?_
  intro K hK
  refine zL [0, 4, 39] ?_
  clear hL
  intro ρ hL
  refine grp_orN (v := ?v1) 4 rfl [4] hL.2.2 rfl (fun hb K1 hK1 => ?run) (fun hb => skA (want := false) (b := _) (by rw [hb]; rfl) hL.2.2 rfl) (fun ρ hP hM => ?_)
  case run =>
   refine zRn ?_
   intro hL
   refine zF (sat_spec_CodeText D (by omega)) ?_
   exact zK1
  refine zPp ?_
  clear hL hP hM
  intro hL
  refine zE [4, 44] ?_
  clear hK K hL
  refine zC ?_ ?_
  ·intro c4
   refine zS [2, 3] ?_
   intro ρ hL
   refine awl_ret ?_
   refine retN (v := .tuple [.esl, .bool false]) [5] [1] [1] rfl (by simp only [go_sem, simprocAttr, hL, hX]; exact rfl) (by first | rfl | (simp only [go_sem, simprocAttr, hL, hX]; first | done | rfl)) (Ref.tuple (RefL.cons (Ref.esl 1 ⟨Nat.le_of_ble_eq_true rfl, Nat.le_of_ble_eq_true rfl⟩) (RefL.same _))) rfl (by decide) rfl rfl ?_ ?_
   all_goals try simp only [go_sem, simprocAttr, hL, hX]
   all_goals ((try clear hR1); rw [crS_bad j1_0 (by simpa using c4)]; try rfl)
  ·intro c4 ρ hL
   refine awl_skip ?_
   revert ρ hL
   refine zS [2, 3] ?_
   refine zK [0] [0] ?_ ?_
   all_goals try simp only [go_sem, simprocAttr, hX]
   all_goals ((try clear hR1); rw [crS_good j1_0 c4.1 c4.2]; try rfl)
end
section
attribute [local go_sem] mk_bt bt_app bt_fits List.length_append List.length_cons List.length_nil
theorem sat_impl_CodeRead (l : Bs) (hl : l.length ≤ 1048576) : Sat Tryz.prog 27 [.str (bt l)] [] (.tuple [.slice 0 0 (codeRead l).1.length 0, .bool (codeRead l).2]) [⟨5, rows (codeRead l).1, true, false⟩] := by
 have hX := trivial
 refine sat_mk [.tmp 2, .tmp 3] 0 46 Tryz.call27 Tryz.func27 Tryz.ntmps27 rfl rfl rfl rfl rfl ?_
 refine zI [0] ?_
 refine zS [0] ?_
 refine zS [0, 4] ?_
 intro ρ hL
 refine zA ?_
 intro K hK
 have h4 := hL.2
 refine hK _ _ ⟨_, _, (Wk.norm [5] (RefE.refl.upd (t := 4) (by simp only [go_sem, simprocAttr, h4]; first | done | rfl) (Ref.esl 0 ⟨Nat.le_refl _, Nat.lt_succ_self _⟩))), awl_live' [4, 5] fun ρ hM => ?_⟩
 try simp only [go_sem, simprocAttr, hL, hX] at hM
 clear hK K h4 hL
 try simp only [go_sem, simprocAttr]
 revert ρ hM
 intro ρ hL
 refine awl_seq ?_
 have e1 := hL
 refine awl_loopH (fun H0 n σ G => ∃ (D : List Ins) (r : Bs) (k : Nat), n = k ∧ (codeGo k r D = codeGo l.length l []) ∧ (r.length ≤ k ∧ k ≤ 1048576 ∧ D.length ≤ 48) ∧ (σ 4 = .slice 0 0 D.length 0 ∧ σ 5 = .str (bt r)) ∧ G = [⟨5, rows D, true, false⟩]) (fun H0 σ G => ∃ (D : List Ins), (codeGo l.length l [] = some D) ∧ (σ 4 = .slice 0 0 D.length 0) ∧ G = [⟨5, rows D, true, false⟩]) ((fun (D : List Ins) (r : Bs) (k : Nat) => k) []  l  l.length) ?init1 (fun n ρ G hI => ?round1) (fun ρ G hJ => ?after1)
 case init1 => exact ⟨[], l, l.length, rfl, (rfl), (⟨Nat.le_refl _, hl, Nat.zero_le _⟩), ⟨(hL.1), (hL.2)⟩, rfl⟩
 case round1 =>
  clear hL
  obtain ⟨D, r, k, hn, i1_0, i1_1, hL, hG⟩ := hI
  subst hG
  revert ρ hL
  refine zS [4, 5, 14] ?_
  refine zC ?_ ?_
  ·intro c1 ρ hL
   refine awl_skip (awl_block fun R1 hw1 hR1 => ?_)
   have hre : r ≠ [] := fun e => c1 (by rw [e])
   revert ρ hL
   refine zSF [4, 6, 7, 8] (sat_strings_Cut r 10 (by omega)) ?_
   refine zSF [4, 7, 8, 9, 10] (sat_impl_InsRead (cutB r 10).1 (Nat.le_trans cutB_len.1 (by omega))) ?_
   intro ρ hL
   refine zA ?_
   intro K hK
   refine zL [4, 7, 9, 10, 28] ?_
   clear hL
   intro ρ hL
   refine grp_orN (v := ?v1) 2 rfl [4, 7, 9] hL.2.2.2.2 rfl (fun hb K1 hK1 => ?run) (fun hb => skA (want := false) (b := _) (by rw [hb]; rfl) hL.2.2.2.2 rfl) (fun ρ hP hM => ?_)
   case run => exact zR1
   refine zPp ?_
   clear hL hP hM
   intro hL
   refine zL [4, 7, 9, 32] ?_
   clear hL
   intro ρ hL
   refine grp_orN (v := ?v2) 3 rfl [4, 7, 9] hL.2.2.2 rfl (fun hb K1 hK1 => ?run) (fun hb => skA (want := false) (b := _) (by rw [hb]; rfl) hL.2.2.2 rfl) (fun ρ hP hM => ?_)
   case run => exact zR1
   refine zPp ?_
   clear hL hP hM
   intro hL
   refine zE [4, 7, 9, 36] ?_
   clear hK K hL
   refine zC ?_ ?_
   ·intro c2
    refine zS [2, 3] ?_
    intro ρ hL
    refine awl_ret ?_
    refine blk_ret ?_
    refine loop_ret ?_
    refine retN (v := .tuple [.nilsl, .bool false]) [5] [2] [2] rfl (by simp only [go_sem, simprocAttr, hL, hX]; exact rfl) (by first | rfl | (simp only [go_sem, simprocAttr, hL, hX]; first | done | rfl)) (Ref.tuple (RefL.cons (Ref.nil 2 ⟨Nat.le_of_ble_eq_true rfl, Nat.le_of_ble_eq_true rfl⟩) (RefL.same _))) rfl (by decide) rfl rfl ?_ ?_
    all_goals try simp only [go_sem, simprocAttr, hL, hX]
    all_goals ((try clear hR1); rw [crI_none (by rw [← i1_0, cGo_no hre i1_1.1 (by rcases c2 with (h | h) | h; exact Or.inl h; exact Or.inr (Or.inl h); exact Or.inr (Or.inr (by omega)))])]; try rfl)
   ·intro c2 ρ hL
    refine awl_skip ?_
    revert ρ hL
    refine zS [4, 7] ?_
    refine zS [4, 5] ?_
    intro ρ hL
    refine awl_nil (blk_normal (hR1 _ _ (.mk ?_)))
    refine awl_nil ?_
    refine loop_againW (Wk.keep [3] rfl) _ ?meas ⟨(D ++ [(insRead (cutB r 10).1).1]), (cutB r 10).2.1, (k - 1), rfl, (by rw [← (cGo_go hre i1_1.1 c2.1.1 c2.1.2 (by omega)).1]; exact i1_0), (by have := (cGo_go (D := D) hre i1_1.1 c2.1.1 c2.1.2 (by omega)).2; simp only [List.length_append, List.length_cons, List.length_nil]; omega), ⟨(by simp only [go_sem, simprocAttr, hL, hX, e1]; first | done | rfl), (by simp only [go_sem, simprocAttr, hL, hX, e1]; first | done | rfl)⟩, (by simp only [go_sem, simprocAttr, hL, hX, e1]; rw [rows_append, rows_one]; rfl)⟩
    case meas => subst hn; exact cGo_less hre i1_1.1
  ·intro c1 ρ hL
   refine awl_exit (loop_break ?_)
   exact ⟨D, (by rw [← i1_0, cGo_end (bt_inj.1 (by simpa using c1))]), (hL.1), rfl⟩
 case after1 =>
  clear hL
  obtain ⟨D, j1_0, hL, hG⟩ := hJ
  subst hG
  revert ρ hL
  refine zS [2, 3] ?_
  refine zK [0] [0] ?_ ?_
  all_goals try simp only [go_sem, simprocAttr, hX]
  all_goals ((try clear hR1); rw [crI_some j1_0]; try rfl)
end
end Go.Proofs.YtgpjgljgplngpaaGreatDoor.AM
