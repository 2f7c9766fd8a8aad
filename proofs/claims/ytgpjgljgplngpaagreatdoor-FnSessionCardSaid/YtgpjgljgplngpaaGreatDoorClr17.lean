/- The law Session, of what is drawn. No conditions but those each theorem bears. -/
import Derived.Test.YtgpjgljgplngpaaGreatDoorFa
import Derived.Test.YtgpjgljgplngpaaGreatDoorCa94
import Derived.Test.YtgpjgljgplngpaaGreatDoorCa60
set_option linter.unusedSimpArgs false
set_option linter.unusedVariables false
namespace Go.Proofs.YtgpjgljgplngpaaGreatDoor.AM
open Go
set_option maxHeartbeats 8000000
set_option maxRecDepth 100000
section
attribute [local go_sem] mk_bt bt_app bt_fits bt_size bt_ext bt_bat List.length_cons List.length_nil List.take_length List.length_append decide_true Option.isSome_none
theorem sat_laws_FnSession (bs : List UInt8) (hs : bs.length ≤ 9223372036854775807) : Sat Tryz.prog 6 [.sl bs.length bs.length (bytesV bs)] [] (.bool true) [] := by
 have hX := trivial
 refine sat_mk [.tmp 2] 0 112 Tryz.call6 Tryz.func6 Tryz.ntmps6 rfl rfl rfl rfl rfl ?_
 refine zI [0] ?_
 refine zS [0] ?_
 refine zSF [0, 18] (sat_laws_big _) ?_
 refine zC ?_ ?_
 ·intro c1
  refine zS [2] ?_
  refine zR ?_
  try simp only [go_sem, simprocAttr]
  all_goals (rfl)
 ·intro c1
  have hb : bs.length ≤ 1048576 := by omega
  intro ρ hL
  refine awl_skip ?_
  obtain ⟨t, l, htl, hs1⟩ := sat_spec_DrawSession bs hb
  obtain ⟨ht, hl⟩ := htl
  refine zA ?_
  intro K hK
  refine zFJ [] (hs1) ?_
  refine zE [3, 4] ?_
  clear hK K hL
  refine zSF [3, 4, 5, 6] (sat_impl_Session t l ht hl) ?_
  refine zSF [3, 4, 5, 6, 7, 8] (sat_spec_Session t l ht hl) ?_
  intro ρ hL
  refine zA ?_
  intro K hK
  refine zE [3, 4, 5, 6, 43] ?_
  clear hK K hL
  refine zC ?_ ?_
  ·intro c2
   first | done | (simp at c2; done) | (simp at c2; omega) | omega
  ·intro c2 ρ hL
   refine awl_skip ?_
   revert ρ hL
   refine zS [3, 4, 5, 6, 45] ?_
   refine zC ?_ ?_
   ·intro c3
    refine zS [2] ?_
    refine zR ?_
    try simp only [go_sem, simprocAttr]
    all_goals (rw [ses_neg c3]; simp)
   ·intro c3
    have hses := ses_pos c3
    intro ρ hL
    refine awl_skip ?_
    revert ρ hL
    refine zSF [4, 5, 6, 9, 10] (sat_impl_DeskNew t ht) ?_
    refine zS [4, 5, 6, 9, 10, 11] ?_
    refine zS [4, 5, 6, 9, 10, 11, 12] ?_
    refine zS [4, 5, 6, 9, 10, 11, 12, 13] ?_
    refine zS [4, 5, 6, 9, 10, 11, 12, 13, 14] ?_
    intro ρ hL
    have e1 := hL
    refine awl_loopH (fun H0 n σ G => ∃ (D : List Bs) (d : Dsk) (o : Bs) (a : Nat) (i : Nat), n = l.length + 1 - i ∧ (rIv l D a i) ∧ (i ≤ l.length + 1) ∧ (tellGo D (dskNew t).1 [] = (d, o)) ∧ (liveE [4, 5, 6, 9, 10] σ ρ ∧ σ 11 = .str (bt o) ∧ σ 12 = .int .i64 (a : Int) ∧ σ 13 = .int .i64 (D.length : Int) ∧ σ 14 = .int .i64 (i : Int)) ∧ G = (d.blks ++ [⟨21, d.own 0 1 2 3 4 5 6, true, false⟩])) (fun H0 σ G => ∃ (d : Dsk) (o : Bs), (tellGo (rowsI l) (dskNew t).1 [] = (d, o)) ∧ (liveE [5, 6, 10] σ ρ ∧ σ 11 = .str (bt o) ∧ σ 13 = .int .i64 ((rowsI l).length : Int)) ∧ G = (d.blks ++ [⟨21, d.own 0 1 2 3 4 5 6, true, false⟩])) ((fun (D : List Bs) (d : Dsk) (o : Bs) (a : Nat) (i : Nat) => l.length + 1 - i) []  (dskNew t).1  []  0  0) ?init1 (fun n ρ G hI => ?round1) (fun ρ G hJ => ?after1)
    case init1 => exact ⟨[], (dskNew t).1, [], 0, 0, rfl, (rIv_zero), (by omega), (rfl), ⟨liveE_refl _ _, (hL.2.2.2.2.2.1), (hL.2.2.2.2.2.2.1), (hL.2.2.2.2.2.2.2.1), (hL.2.2.2.2.2.2.2.2)⟩, rfl⟩
    case round1 =>
     clear hL
     obtain ⟨D, d, o, a, i, hn, i1_0, i1_1, i1_2, hL, hG⟩ := hI
     subst hG
     try simp only [go_sem, simprocAttr, e1, hX] at hL
     revert ρ hL
     refine zS [4, 5, 6, 9, 10, 11, 12, 13, 14, 56] ?_
     refine zC ?_ ?_
     ·intro c4 ρ hL
      refine awl_skip (awl_seq (awl_block fun R1 hw1 hR1 => ?_))
      refine zA ?_
      intro K hK
      refine zL [4, 5, 6, 9, 10, 11, 12, 13, 14, 63] ?_
      clear hL
      intro ρ hL
      refine grp_andN (v := ?v1) 4 rfl [4, 5, 6, 9, 10, 11, 12, 13, 14] hL.2.2.2.2.2.2.2.2.2 rfl (fun hb K1 hK1 => ?run) (fun hb => skA (want := true) (b := _) (by rw [hb]; rfl) hL.2.2.2.2.2.2.2.2.2 rfl) (fun ρ hP hM => ?_)
      case run =>
       simp only [List.take_succ_cons, List.take_zero]
       rw [hb] at hL
       have hz : i < l.length := by have := hb; simp at this; omega
       have hs1 : (0 : Int) ≤ (i : Int) := by omega
       have hs2 : (i : Int) < (l.length : Int) := by omega
       try simp only [go_sem, simprocAttr, hL, hX, hs1, hs2]
       repeat' refine And.intro (by first | rfl | omega | (simp; done)) ?_
       refine hK1 _ ?_ ?_ ?_ <;> simp only [go_sem, simprocAttr, hL, hX, hs1, hs2] <;> exact rfl
      refine zPp ?_
      clear hL hP hM
      intro hL
      refine zL [4, 5, 6, 9, 10, 11, 12, 13, 14, 69] ?_
      clear hL
      intro ρ hL
      refine grp_orN (v := ?v2) 10 rfl [4, 5, 6, 9, 10, 11, 12, 13, 14] hL.2.2.2.2.2.2.2.2.2 rfl (fun hb K1 hK1 => ?run) (fun hb => skA (want := false) (b := _) (by rw [hb]; rfl) hL.2.2.2.2.2.2.2.2.2 rfl) (fun ρ hP hM => ?_)
      case run =>
       refine zRn ?_
       intro hL
       have g3 := hL
       have hK1_3 := hK1
       refine zL [4, 5, 6, 9, 10, 11, 12, 13, 14, 69, 74] ?_
       clear hL
       intro ρ hL
       refine grp_andGN (v := ?v4) 4 69 false rfl hL.2.2.2.2.2.2.2.2.2.1 [4, 5, 6, 9, 10, 11, 12, 13, 14, 69] rfl hL.2.2.2.2.2.2.2.2.2.2 rfl (fun hb K1 hK1 => ?run) (fun hb => skA (want := true) (b := _) (by rw [hb]; rfl) hL.2.2.2.2.2.2.2.2.2.2 rfl) (fun ρ hP hM => ?_)
       case run => exact zR1
       refine zPp ?_
       clear hL hP hM
       intro hL
       refine hK1_3 _ ?_ ?_ ?_ <;> simp only [go_sem, simprocAttr, hL, hX, g3] <;> exact rfl
      refine zPp ?_
      clear hL hP hM
      intro hL
      refine zE [4, 5, 6, 9, 10, 11, 12, 13, 14, 80] ?_
      clear hK K hL
      refine zC ?_ ?_
      ·intro c5 ρ hL
       refine awl_exit (blk_exit (hR1 _ _ (.mk ?_)))
       have hw9 : IntKind.i64.wrap ((i : Int) + 1) = ((i + 1 : Nat) : Int) := by rw [wrap64 (by omega)]; omega
       revert ρ hL
       refine zSX [4, 5, 6, 9, 10, 11, 12, 13, 14] (And.intro hw9 hX) ?_
       intro ρ hL
       refine awl_nil ?_
       refine loop_againW (Wk.keep [0, 1, 2, 3, 4, 5, 6, 7] rfl) _ ?meas ⟨D, d, o, a, (i + 1), rfl, (by exact rIv_on2 i1_0 (by omega) c5), (by omega), (by exact i1_2), ⟨(by simp only [go_sem, simprocAttr, hL, hX, e1]), (by simp only [go_sem, simprocAttr, hL, hX, e1]; first | done | rfl), (by simp only [go_sem, simprocAttr, hL, hX, e1]; first | done | rfl), (by simp only [go_sem, simprocAttr, hL, hX, e1]; first | done | rfl), (by simp only [go_sem, simprocAttr, hL, hX, e1]; first | done | rfl)⟩, (by simp only [go_sem, simprocAttr, hL, hX, e1]; first | done | rfl)⟩
       case meas => subst hn; omega
      ·intro c5 ρ hL
       refine awl_skip ?_
       have hia := (rIv_get i1_0 (by omega)).1
       have hga : (0 : Int) ≤ (a : Int) := by omega
       have hgb : (a : Int) ≤ (i : Int) := by omega
       have hgc : (i : Int) ≤ (l.length : Int) := by omega
       have hgd : (0 : Int) ≤ (i : Int) := by omega
       have hDl := Nat.le_trans (rIv_len i1_0) (by rw [rows_eq]; exact hses.2.1)
       obtain ⟨hbf, hbo, hbl⟩ := new_bounds (t := t) hDl i1_2
       have hcl : ((l.take i).drop a).length ≤ l.length := by rw [List.length_drop, List.length_take]; omega
       have hlx := line_len (d := d) (s := ((l.take i).drop a))
       have hX0 := hX
       replace hX := And.intro hga (And.intro hgb (And.intro hgc (And.intro hgd hX)))
       refine zAD [0, 0, 0, 0, 14, 31, 63, 127, 127, 0, 767, 2047] ?_
       intro K hK
       refine zFD [0, 0, 0, 0, 14, 31, 63, 127, 127, 0, 767, 2047] (sat_impl_DeskLine d ((l.take i).drop a) hbf (by omega) (by omega)) ?_
       refine zE [4, 5, 6, 9, 10, 11, 13, 14, 15, 16] ?_
       clear hK K hL
       clear hX
       have hX := hX0
       clear hX0
       refine zS [4, 5, 6, 9, 10, 11, 13, 14, 16] ?_
       refine zS [4, 5, 6, 9, 10, 11, 13, 14, 16, 92] ?_
       refine zC ?_ ?_
       ·intro c6
        refine zS [4, 5, 6, 9, 10, 11, 13, 14] ?_
        have hw9 : IntKind.i64.wrap ((i : Int) + 1) = ((i + 1 : Nat) : Int) := by rw [wrap64 (by omega)]; omega
        refine zSX [4, 5, 6, 9, 10, 11, 12, 13, 14] (And.intro hw9 hX) ?_
        have hwm : IntKind.i64.wrap ((D.length : Int) + 1) = ((D.length + 1 : Nat) : Int) := by rw [wrap64 (by omega)]; omega
        refine zSX [4, 5, 6, 9, 10, 11, 12, 13, 14] (And.intro hwm hX) ?_
        intro ρ hL
        refine awl_nil (blk_normal (hR1 _ _ (.mk ?_)))
        have hw9 : IntKind.i64.wrap ((i : Int) + 1) = ((i + 1 : Nat) : Int) := by rw [wrap64 (by omega)]; omega
        revert ρ hL
        refine zSX [4, 5, 6, 9, 10, 11, 12, 13, 14] (And.intro hw9 hX) ?_
        intro ρ hL
        refine awl_nil ?_
        refine loop_againW (Wk.keep [8, 9, 10, 11, 12, 13, 14, 7] rfl) _ ?meas ⟨(D ++ [((l.take i).drop a)]), (dskLine d ((l.take i).drop a)).1, (o ++ ((dskLine d ((l.take i).drop a)).2 ++ [10])), (i + 1), (i + 1), rfl, (by exact rIv_cut2 i1_0 (by omega) ⟨fun h => by omega, fun h g => by omega⟩), (by omega), (by exact tellD_yes i1_2 (fun e => c6 (by rw [e]))), ⟨(by simp only [go_sem, simprocAttr, hL, hX, e1]), (by simp only [go_sem, simprocAttr, hL, hX, e1]; first | done | rfl), (by simp only [go_sem, simprocAttr, hL, hX, e1]; first | done | rfl), (by simp only [go_sem, simprocAttr, hL, hX, e1]; first | done | rfl), (by simp only [go_sem, simprocAttr, hL, hX, e1]; first | done | rfl)⟩, (by simp only [go_sem, simprocAttr, hL, hX, e1]; first | done | rfl)⟩
        case meas => subst hn; omega
       ·intro c6 ρ hL
        refine awl_skip ?_
        have hw9 : IntKind.i64.wrap ((i : Int) + 1) = ((i + 1 : Nat) : Int) := by rw [wrap64 (by omega)]; omega
        revert ρ hL
        refine zSX [4, 5, 6, 9, 10, 11, 12, 13, 14] (And.intro hw9 hX) ?_
        have hwm : IntKind.i64.wrap ((D.length : Int) + 1) = ((D.length + 1 : Nat) : Int) := by rw [wrap64 (by omega)]; omega
        refine zSX [4, 5, 6, 9, 10, 11, 12, 13, 14] (And.intro hwm hX) ?_
        intro ρ hL
        refine awl_nil (blk_normal (hR1 _ _ (.mk ?_)))
        have hw9 : IntKind.i64.wrap ((i : Int) + 1) = ((i + 1 : Nat) : Int) := by rw [wrap64 (by omega)]; omega
        revert ρ hL
        refine zSX [4, 5, 6, 9, 10, 11, 12, 13, 14] (And.intro hw9 hX) ?_
        intro ρ hL
        refine awl_nil ?_
        refine loop_againW (Wk.keep [8, 9, 10, 11, 12, 13, 14, 7] rfl) _ ?meas ⟨(D ++ [((l.take i).drop a)]), (dskLine d ((l.take i).drop a)).1, o, (i + 1), (i + 1), rfl, (by exact rIv_cut2 i1_0 (by omega) ⟨fun h => by omega, fun h g => by omega⟩), (by omega), (by exact tellD_no i1_2 (bt_inj.1 c6)), ⟨(by simp only [go_sem, simprocAttr, hL, hX, e1]), (by simp only [go_sem, simprocAttr, hL, hX, e1]; first | done | rfl), (by simp only [go_sem, simprocAttr, hL, hX, e1]; first | done | rfl), (by simp only [go_sem, simprocAttr, hL, hX, e1]; first | done | rfl), (by simp only [go_sem, simprocAttr, hL, hX, e1]; first | done | rfl)⟩, (by simp only [go_sem, simprocAttr, hL, hX, e1]; first | done | rfl)⟩
        case meas => subst hn; omega
     ·intro c4 ρ hL
      refine awl_exit (loop_break ?_)
      exact ⟨d, o, (by rw [← rIv_fin i1_0 c4]; exact i1_2), ⟨(by simp only [go_sem, simprocAttr, hL, hX, e1]), (hL.2.2.2.2.2.1), (by simp only [hL]; rw [rIv_fin i1_0 c4])⟩, rfl⟩
    case after1 =>
     clear hL
     obtain ⟨d, o, j1_0, hL, hG⟩ := hJ
     subst hG
     try simp only [go_sem, simprocAttr, e1, hX] at hL
     refine zA ?_
     intro K hK
     refine zL [5, 6, 11, 13, 102] ?_
     clear hL
     intro ρ hL
     refine grp_andN (v := ?v5) 3 rfl [6, 13] hL.2.2.2.2 rfl (fun hb K1 hK1 => ?run) (fun hb => skA (want := true) (b := _) (by rw [hb]; rfl) hL.2.2.2.2 rfl) (fun ρ hP hM => ?_)
     case run => exact zR1
     refine zPp ?_
     clear hL hP hM
     intro hL
     refine zL [6, 13, 107] ?_
     clear hL
     intro ρ hL
     refine grp_andN (v := ?v6) 3 rfl [] hL.2.2 rfl (fun hb K1 hK1 => ?run) (fun hb => skA (want := true) (b := _) (by rw [hb]; rfl) hL.2.2 rfl) (fun ρ hP hM => ?_)
     case run => exact zR1
     simp only [List.drop_succ_cons, List.drop_zero]
     clear hM hL
     have hL := hP
     clear hP
     try simp only [go_sem, simprocAttr, hL, hX]
     repeat' refine And.intro (by first | rfl | omega | (simp; done)) ?_
     refine zE [2] ?_
     clear hK K hL
     refine zR ?_
     try simp only [go_sem, simprocAttr]
     all_goals ((try clear hR1); rw [hses.2.2, j1_0, hses.1]; simp)
end
end Go.Proofs.YtgpjgljgplngpaaGreatDoor.AM
