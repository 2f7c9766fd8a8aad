/- A session. No conditions but those each theorem bears. -/
import Derived.Test.YtgpjgljgplngpaaGreatDoorFa
import Derived.Test.YtgpjgljgplngpaaGreatDoorCa91
import Derived.Test.YtgpjgljgplngpaaGreatDoorCa92
set_option linter.unusedSimpArgs false
set_option linter.unusedVariables false
namespace Go.Proofs.YtgpjgljgplngpaaGreatDoor.AM
open Go
set_option maxHeartbeats 8000000
set_option maxRecDepth 100000
theorem sat_split_lines (l : Bs) (hl : l.length ≤ 1048576) : Sat Tryz.prog 39 [.str (bt l), .str (bt [10])] [] (.slice 0 0 (splitB 10 l).length (splitB 10 l).length) [⟨1, strsV (splitB 10 l), true, false⟩] := sat_strings_Split l 10 hl
theorem sat_spec_DeskLine2 (d : Dsk) (l : Bs) (hf : d.fit) (ho : d.order.length ≤ 1000000) (hl : l.length ≤ 1048576) : Sat Tryz.prog 17 [.agg d.cells, .str (bt l)] [] (.tuple [.agg ((dskLine d l).1.own 0 1 2 3 4 5 6), .str (bt (dskLine d l).2)]) (dskLine d l).1.blks := by rw [← line_eq]; exact sat_spec_DeskLine d l hf ho hl
section
attribute [local go_sem] mk_bt bt_app bt_fits bt_size bt_ext bt_bat List.length_cons List.length_nil List.take_length List.length_append strsV_len Nat.max_self Nat.sub_zero Option.isSome_none Option.isNone_none Option.isNone_some
theorem sat_impl_Session (t : Bs) (l : Bs) (hlt : t.length ≤ 1048576) (hl : l.length ≤ 1048576) : Sat Tryz.prog 13 [.str (bt t), .str (bt l)] [] (.tuple [.str (bt (session t l).1), .int .i64 (session t l).2]) [] := by
 have hX := trivial
 refine sat_mk [.tmp 4, .tmp 5] 0 61 Tryz.call13 Tryz.func13 Tryz.ntmps13 rfl rfl rfl rfl rfl ?_
 refine zI [0, 1] ?_
 refine zS [0, 1] ?_
 refine zSF [1, 6, 7] (sat_impl_DeskNew t hlt) ?_
 refine zS [1, 6, 20] ?_
 refine zC ?_ ?_
 ·intro c1
  refine zS [4, 5] ?_
  refine zR ?_
  try simp only [go_sem, simprocAttr]
  all_goals (rw [ses_new (by simpa using c1)]; try rfl)
 ·intro c1 ρ hL
  refine awl_skip ?_
  revert ρ hL
  refine zSF [6, 8] (sat_split_lines l hl) ?_
  have hsp := split_pos (l := l)
  have hw5 : IntKind.i64.wrap (((splitB 10 l).length : Int) - 1) = (((splitB 10 l).length - 1 : Nat) : Int) := by rw [wrap64 (by have := splitB_len (c := 10) (l := l); have := List.count_le_length (a := (10 : UInt8)) (l := l); omega)]; omega
  have hga : (0 : Int) ≤ (((splitB 10 l).length - 1 : Nat) : Int) := by omega
  have hgb : (((splitB 10 l).length - 1 : Nat) : Int) < ((splitB 10 l).length : Int) := by omega
  have hsa := strsV_at (xs := splitB 10 l) (n := (splitB 10 l).length - 1) (by omega)
  refine zSX [6, 8, 29] (And.intro hw5 (And.intro hga (And.intro hgb (And.intro hsa hX)))) ?_
  intro ρ hL
  have j1 := hL
  refine awl_joinH (fun H0 σ G => (liveE [6] σ ρ ∧ σ 8 = .slice 8 0 (rowsI l).length (splitB 10 l).length) ∧ G = H0) ?inner1 (fun ρ G hJ => ?after1)
  case inner1 =>
   refine zN [6, 8, 29] ?_
   clear hL
   refine zC ?_ ?_
   ·intro c2
    have hgc : (((splitB 10 l).length - 1 : Nat) : Int) ≤ ((splitB 10 l).length : Int) := by omega
    refine zSX [6, 8] (And.intro hw5 (And.intro hga (And.intro hgc hX))) ?_
    intro ρ hL
    refine awl_nil ?_
    show wkQ _ _ _ _
    refine .mk ⟨⟨(by simp only [go_sem, simprocAttr, hL, hX, j1]), (by rw [hL.2]; first | (rw [ri_cut c2, List.length_dropLast]; done) | (rw [ri_all c2]; done))⟩, rfl⟩
   ·intro c2 ρ hL
    refine awl_skip (awl_nil ?_)
    show wkQ _ _ _ _
    refine .mk ⟨⟨(by simp only [go_sem, simprocAttr, hL, hX, j1]), (by rw [hL.2.1]; first | (rw [ri_cut c2, List.length_dropLast]; done) | (rw [ri_all c2]; done))⟩, rfl⟩
  case after1 =>
   clear hL
   obtain ⟨hL, hG⟩ := hJ
   subst hG
   try simp only [go_sem, simprocAttr, j1, hX] at hL
   revert ρ hL
   refine zS [6, 8, 37] ?_
   refine zC ?_ ?_
   ·intro c3
    refine zS [4, 5] ?_
    refine zR ?_
    try simp only [go_sem, simprocAttr]
    all_goals (rw [ses_long (by simpa using c1) (by omega)]; try rfl)
   ·intro c3 ρ hL
    refine awl_skip ?_
    revert ρ hL
    refine zS [6, 8, 9] ?_
    refine zS [6, 8, 9, 38, 39, 40] ?_
    intro ρ hL
    have e2 := hL
    refine awl_loopH (fun H0 n σ G => ∃ (d : Dsk) (o : Bs) (i : Nat), n = (rowsI l).length - i ∧ (i ≤ (rowsI l).length) ∧ (tellGo ((rowsI l).take i) (dskNew t).1 [] = (d, o)) ∧ (liveE [6, 8, 38, 39] σ ρ ∧ σ 9 = .str (bt o) ∧ σ 40 = .int .i64 (i : Int)) ∧ G = (d.blks ++ [⟨21, d.own 0 1 2 3 4 5 6, true, false⟩, ⟨1, strsV (splitB 10 l), true, false⟩])) (fun H0 σ G => ∃ (d : Dsk) (o : Bs), (tellGo (rowsI l) (dskNew t).1 [] = (d, o)) ∧ (liveE [8] σ ρ ∧ σ 9 = .str (bt o)) ∧ G = (d.blks ++ [⟨21, d.own 0 1 2 3 4 5 6, true, false⟩, ⟨1, strsV (splitB 10 l), true, false⟩])) ((fun (d : Dsk) (o : Bs) (i : Nat) => (rowsI l).length - i) (dskNew t).1  []  0) ?init2 (fun n ρ G hI => ?round2) (fun ρ G hJ => ?after2)
    case init2 => exact ⟨(dskNew t).1, [], 0, rfl, (Nat.zero_le _), (rfl), ⟨liveE_refl _ _, (hL.2.2.1), (hL.2.2.2.2.2)⟩, rfl⟩
    case round2 =>
     clear hL
     obtain ⟨d, o, i, hn, i2_0, i2_1, hL, hG⟩ := hI
     subst hG
     try simp only [go_sem, simprocAttr, e2, hX] at hL
     revert ρ hL
     refine zS [6, 8, 9, 38, 39, 40, 41] ?_
     refine zC ?_ ?_
     ·intro c4
      have hi2 : i < (rowsI l).length := by omega
      replace hX := And.intro hi2 hX
      intro ρ hL
      refine awl_skip (awl_seq (awl_block fun R1 hw1 hR1 => ?_))
      obtain ⟨hra, hrb⟩ := ri_at (l := l) (i := i) (by omega)
      have hsb := strsV_at (xs := splitB 10 l) (n := i) hrb
      rw [hra] at hsb
      revert ρ hL
      refine zSX [6, 8, 9, 11, 38, 39, 40] (And.intro hsb hX) ?_
      obtain ⟨hbf, hbo, hbl⟩ := new_bounds (t := t) (ls := (rowsI l).take i) (by rw [List.length_take]; omega) i2_1
      have hbx := ri_mem (l := l) (i := i) (by omega)
      have hlx := line_len (d := d) (s := ((rowsI l).getD i []))
      refine zSF [6, 8, 9, 12, 13, 38, 39, 40] (sat_impl_DeskLine d ((rowsI l).getD i []) hbf (by omega) (by omega)) ?_
      refine zS [6, 8, 9, 13, 38, 39, 40] ?_
      refine zS [6, 8, 9, 13, 38, 39, 40, 52] ?_
      refine zC ?_ ?_
      ·intro c5
       refine zS [6, 8, 9, 38, 39, 40] ?_
       intro ρ hL
       refine awl_nil (blk_normal (hR1 _ _ (.mk ?_)))
       have w2 : IntKind.i64.wrap ((i : Int) + 1) = ((i + 1 : Nat) : Int) := by rw [wrap64 (by omega)]; omega
       replace hX := And.intro w2 hX
       revert ρ hL
       refine zS [6, 8, 9, 38, 39, 40] ?_
       intro ρ hL
       refine awl_nil ?_
       refine loop_againW (Wk.keep [9, 10, 11, 12, 13, 14, 15, 7, 8] rfl) _ ?meas ⟨(dskLine d ((rowsI l).getD i [])).1, (o ++ ((dskLine d ((rowsI l).getD i [])).2 ++ [10])), (i + 1), rfl, (by omega), (by exact tell_yes (by omega) i2_1 (fun e => c5 (by rw [e]))), ⟨(by simp only [go_sem, simprocAttr, hL, hX, e2]), (by simp only [go_sem, simprocAttr, hL, hX, e2]; first | done | rfl), (by simp only [go_sem, simprocAttr, hL, hX, e2]; first | done | rfl)⟩, (by simp only [go_sem, simprocAttr, hL, hX, e2]; first | done | rfl)⟩
       case meas => subst hn; omega
      ·intro c5 ρ hL
       refine awl_skip (awl_nil (blk_normal (hR1 _ _ (.mk ?_))))
       have w2 : IntKind.i64.wrap ((i : Int) + 1) = ((i + 1 : Nat) : Int) := by rw [wrap64 (by omega)]; omega
       replace hX := And.intro w2 hX
       revert ρ hL
       refine zS [6, 8, 9, 38, 39, 40] ?_
       intro ρ hL
       refine awl_nil ?_
       refine loop_againW (Wk.keep [9, 10, 11, 12, 13, 14, 15, 7, 8] rfl) _ ?meas ⟨(dskLine d ((rowsI l).getD i [])).1, o, (i + 1), rfl, (by omega), (by exact tell_no (by omega) i2_1 (bt_inj.1 c5)), ⟨(by simp only [go_sem, simprocAttr, hL, hX, e2]), (by simp only [go_sem, simprocAttr, hL, hX, e2]; first | done | rfl), (by simp only [go_sem, simprocAttr, hL, hX, e2]; first | done | rfl)⟩, (by simp only [go_sem, simprocAttr, hL, hX, e2]; first | done | rfl)⟩
       case meas => subst hn; omega
     ·intro c4 ρ hL
      refine awl_exit (loop_break ?_)
      exact ⟨d, o, (by rw [← i2_1, List.take_of_length_le (by omega)]), ⟨(by simp only [go_sem, simprocAttr, hL, hX, e2]), (hL.2.2.1)⟩, rfl⟩
    case after2 =>
     clear hL
     obtain ⟨d, o, j2_0, hL, hG⟩ := hJ
     subst hG
     try simp only [go_sem, simprocAttr, e2, hX] at hL
     revert ρ hL
     refine zS [4, 5] ?_
     refine zR ?_
     try simp only [go_sem, simprocAttr]
     all_goals ((try clear hR1); rw [ses_go (by simpa using c1) (by omega) j2_0]; try rfl)
end
section
attribute [local go_sem] mk_bt bt_app bt_fits bt_size bt_ext bt_bat List.length_cons List.length_nil List.take_length List.length_append strsV_len strsV_take Nat.max_self Nat.sub_zero Option.isSome_none Option.isNone_none Option.isNone_some
theorem sat_spec_Session (t : Bs) (l : Bs) (hlt : t.length ≤ 1048576) (hl : l.length ≤ 1048576) : Sat Tryz.prog 12 [.str (bt t), .str (bt l)] [] (.tuple [.str (bt (session t l).1), .int .i64 (session t l).2]) [] := by
 have hX := trivial
 refine sat_mk [.tmp 4, .tmp 5] 0 88 Tryz.call12 Tryz.func12 Tryz.ntmps12 rfl rfl rfl rfl rfl ?_
 refine zI [0, 1] ?_
 refine zS [0, 1] ?_
 refine zSF [1, 6, 7] (sat_spec_DeskNew t hlt) ?_
 refine zS [1, 6, 21] ?_
 refine zC ?_ ?_
 ·intro c1
  refine zS [4, 5] ?_
  refine zR ?_
  try simp only [go_sem, simprocAttr]
  all_goals (rw [ses_new (by simpa using c1)]; try rfl)
 ·intro c1 ρ hL
  refine awl_skip ?_
  revert ρ hL
  refine zS [1, 6, 8] ?_
  intro ρ hL
  refine zA ?_
  intro K hK
  have h8 := hL.2.2
  refine hK _ _ ⟨_, _, (Wk.norm [1] (RefE.refl.upd (t := 8) (by simp only [go_sem, simprocAttr, h8]; first | done | rfl) (Ref.esl 8 ⟨Nat.le_refl _, Nat.lt_succ_self _⟩))), awl_live' [1, 6, 8, 9] fun ρ hM => ?_⟩
  try simp only [go_sem, simprocAttr, hL, hX] at hM
  clear hK K h8 hL
  try simp only [go_sem, simprocAttr]
  revert ρ hM
  refine zS [1, 6, 8, 9, 10] ?_
  intro ρ hL
  have e1 := hL
  refine awl_loopH (fun H0 n σ G => ∃ (D : List Bs) (a : Nat) (i : Nat), n = l.length + 1 - i ∧ (rIv l D a i) ∧ (i ≤ l.length + 1) ∧ (liveE [1, 6] σ ρ ∧ σ 8 = .slice 8 0 D.length 0 ∧ σ 9 = .int .i64 (a : Int) ∧ σ 10 = .int .i64 (i : Int)) ∧ G = ((dskNew t).1.blks ++ [⟨21, (dskNew t).1.own 0 1 2 3 4 5 6, true, false⟩, ⟨1, strsV D, true, false⟩])) (fun H0 σ G => ∃ (D : List Bs), (D = (rowsI l)) ∧ (liveE [6] σ ρ ∧ σ 8 = .slice 8 0 D.length 0) ∧ G = ((dskNew t).1.blks ++ [⟨21, (dskNew t).1.own 0 1 2 3 4 5 6, true, false⟩, ⟨1, strsV D, true, false⟩])) ((fun (D : List Bs) (a : Nat) (i : Nat) => l.length + 1 - i) []  0  0) ?init1 (fun n ρ G hI => ?round1) (fun ρ G hJ => ?after1)
  case init1 => exact ⟨[], 0, 0, rfl, (rIv_zero), (by omega), ⟨liveE_refl _ _, (hL.2.2.1), (hL.2.2.2.1), (hL.2.2.2.2)⟩, rfl⟩
  case round1 =>
   clear hL
   obtain ⟨D, a, i, hn, i1_0, i1_1, hL, hG⟩ := hI
   subst hG
   try simp only [go_sem, simprocAttr, e1, hX] at hL
   revert ρ hL
   refine zS [1, 6, 8, 9, 10, 26] ?_
   refine zC ?_ ?_
   ·intro c2 ρ hL
    refine awl_skip (awl_seq (awl_block fun R1 hw1 hR1 => ?_))
    refine zA ?_
    intro K hK
    refine zL [1, 6, 8, 9, 10, 33] ?_
    clear hL
    intro ρ hL
    refine grp_andN (v := ?v1) 4 rfl [1, 6, 8, 9, 10] hL.2.2.2.2.2 rfl (fun hb K1 hK1 => ?run) (fun hb => skA (want := true) (b := _) (by rw [hb]; rfl) hL.2.2.2.2.2 rfl) (fun ρ hP hM => ?_)
    case run =>
     simp only [List.take_succ_cons, List.take_zero]
     rw [hb] at hL
     have hz : i < l.length := by have := hb; simp at this; omega
     have hs1 : (0 : Int) ≤ (i : Int) := by omega
     have hs2 : (i : Int) < (l.length : Int) := by omega
     try simp only [go_sem, simprocAttr, hL, hX, hs1, hs2]
     repeat' refine And.intro (by first | rfl | omega | (simp; done)) ?_
     refine hK1 _ ?_ ?_ ?_ <;> simp only [go_sem, simprocAttr, hL, hX, hs1, hs2] <;> exact rfl
    refine zPp ?_
    clear hL hP hM
    intro hL
    refine zL [1, 6, 8, 9, 10, 39] ?_
    clear hL
    intro ρ hL
    refine grp_orN (v := ?v2) 10 rfl [1, 6, 8, 9, 10] hL.2.2.2.2.2 rfl (fun hb K1 hK1 => ?run) (fun hb => skA (want := false) (b := _) (by rw [hb]; rfl) hL.2.2.2.2.2 rfl) (fun ρ hP hM => ?_)
    case run =>
     refine zRn ?_
     intro hL
     have g3 := hL
     have hK1_3 := hK1
     refine zL [1, 6, 8, 9, 10, 39, 44] ?_
     clear hL
     intro ρ hL
     refine grp_andGN (v := ?v4) 4 39 false rfl hL.2.2.2.2.2.1 [1, 6, 8, 9, 10, 39] rfl hL.2.2.2.2.2.2 rfl (fun hb K1 hK1 => ?run) (fun hb => skA (want := true) (b := _) (by rw [hb]; rfl) hL.2.2.2.2.2.2 rfl) (fun ρ hP hM => ?_)
     case run => exact zR1
     refine zPp ?_
     clear hL hP hM
     intro hL
     refine hK1_3 _ ?_ ?_ ?_ <;> simp only [go_sem, simprocAttr, hL, hX, g3] <;> exact rfl
    refine zPp ?_
    clear hL hP hM
    intro hL
    refine zE [1, 6, 8, 9, 10, 50] ?_
    clear hK K hL
    refine zC ?_ ?_
    ·intro c3 ρ hL
     refine awl_exit (blk_exit (hR1 _ _ (.mk ?_)))
     have hw9 : IntKind.i64.wrap ((i : Int) + 1) = ((i + 1 : Nat) : Int) := by rw [wrap64 (by omega)]; omega
     revert ρ hL
     refine zSX [1, 6, 8, 9, 10] (And.intro hw9 hX) ?_
     intro ρ hL
     refine awl_nil ?_
     refine loop_againW (Wk.keep [0, 1, 2, 3, 4, 5, 6, 7, 8] rfl) _ ?meas ⟨D, a, (i + 1), rfl, (by exact rIv_on2 i1_0 (by omega) c3), (by omega), ⟨(by simp only [go_sem, simprocAttr, hL, hX, e1]), (by simp only [go_sem, simprocAttr, hL, hX, e1]; first | done | rfl), (by simp only [go_sem, simprocAttr, hL, hX, e1]; first | done | rfl), (by simp only [go_sem, simprocAttr, hL, hX, e1]; first | done | rfl)⟩, (by simp only [go_sem, simprocAttr, hL, hX, e1]; first | done | rfl)⟩
     case meas => subst hn; omega
    ·intro c3 ρ hL
     refine awl_skip ?_
     have hia := (rIv_get i1_0 (by omega)).1
     have hga : (0 : Int) ≤ (a : Int) := by omega
     have hgb : (a : Int) ≤ (i : Int) := by omega
     have hgc : (i : Int) ≤ (l.length : Int) := by omega
     have hgd : (0 : Int) ≤ (i : Int) := by omega
     have hD := rIv_D i1_0 i1_1
     revert ρ hL
     refine zSX [1, 6, 8, 10] (And.intro hga (And.intro hgb (And.intro hgc (And.intro hgd hX)))) ?_
     have hw9 : IntKind.i64.wrap ((i : Int) + 1) = ((i + 1 : Nat) : Int) := by rw [wrap64 (by omega)]; omega
     refine zSX [1, 6, 8, 9, 10] (And.intro hw9 hX) ?_
     intro ρ hL
     refine awl_nil (blk_normal (hR1 _ _ (.mk ?_)))
     have hw9 : IntKind.i64.wrap ((i : Int) + 1) = ((i + 1 : Nat) : Int) := by rw [wrap64 (by omega)]; omega
     revert ρ hL
     refine zSX [1, 6, 8, 9, 10] (And.intro hw9 hX) ?_
     intro ρ hL
     refine awl_nil ?_
     refine loop_againW (Wk.keep [0, 1, 2, 3, 4, 5, 6, 7, 10] rfl) _ ?meas ⟨(D ++ [((l.take i).drop a)]), (i + 1), (i + 1), rfl, (by exact rIv_cut2 i1_0 (by omega) ⟨fun h => by omega, fun h g => by omega⟩), (by omega), ⟨(by simp only [go_sem, simprocAttr, hL, hX, e1]), (by simp only [go_sem, simprocAttr, hL, hX, e1]; first | done | rfl), (by simp only [go_sem, simprocAttr, hL, hX, e1]; first | done | rfl), (by simp only [go_sem, simprocAttr, hL, hX, e1]; first | done | rfl)⟩, (by simp only [go_sem, simprocAttr, hL, hX, e1]; rw [strsV_app]; rfl)⟩
     case meas => subst hn; omega
   ·intro c2 ρ hL
    refine awl_exit (loop_break ?_)
    exact ⟨D, (by exact rIv_fin i1_0 c2), ⟨(by simp only [go_sem, simprocAttr, hL, hX, e1]), (hL.2.2.1)⟩, rfl⟩
  case after1 =>
   clear hL
   obtain ⟨D, j1_0, hL, hG⟩ := hJ
   subst hG
   try simp only [go_sem, simprocAttr, e1, hX] at hL
   subst j1_0
   revert ρ hL
   refine zS [6, 8, 62] ?_
   refine zC ?_ ?_
   ·intro c4
    refine zS [4, 5] ?_
    refine zR ?_
    try simp only [go_sem, simprocAttr]
    all_goals ((try clear hR1); rw [ses_long (by simpa using c1) (by omega)]; try rfl)
   ·intro c4 ρ hL
    refine awl_skip ?_
    revert ρ hL
    refine zS [6, 8, 11] ?_
    refine zS [6, 8, 11, 12] ?_
    intro ρ hL
    have e2 := hL
    refine awl_loopH (fun H0 n σ G => ∃ (d : Dsk) (o : Bs) (i : Nat), n = (rowsI l).length - i ∧ (i ≤ (rowsI l).length) ∧ (tellGo ((rowsI l).take i) (dskNew t).1 [] = (d, o)) ∧ (liveE [6, 8] σ ρ ∧ σ 11 = .str (bt o) ∧ σ 12 = .int .i64 (i : Int)) ∧ G = (d.blks ++ [⟨21, d.own 0 1 2 3 4 5 6, true, false⟩, ⟨1, strsV (rowsI l), true, false⟩])) (fun H0 σ G => ∃ (d : Dsk) (o : Bs), (tellGo (rowsI l) (dskNew t).1 [] = (d, o)) ∧ (liveE [8] σ ρ ∧ σ 11 = .str (bt o)) ∧ G = (d.blks ++ [⟨21, d.own 0 1 2 3 4 5 6, true, false⟩, ⟨1, strsV (rowsI l), true, false⟩])) ((fun (d : Dsk) (o : Bs) (i : Nat) => (rowsI l).length - i) (dskNew t).1  []  0) ?init2 (fun n ρ G hI => ?round2) (fun ρ G hJ => ?after2)
    case init2 => exact ⟨(dskNew t).1, [], 0, rfl, (Nat.zero_le _), (rfl), ⟨liveE_refl _ _, (hL.2.2.1), (hL.2.2.2)⟩, rfl⟩
    case round2 =>
     clear hL
     obtain ⟨d, o, i, hn, i2_0, i2_1, hL, hG⟩ := hI
     subst hG
     try simp only [go_sem, simprocAttr, e2, hX] at hL
     revert ρ hL
     refine zS [6, 8, 11, 12, 66] ?_
     refine zC ?_ ?_
     ·intro c5
      have hi2 : i < (rowsI l).length := by omega
      replace hX := And.intro hi2 hX
      intro ρ hL
      refine awl_skip (awl_seq (awl_block fun R2 hw2 hR2 => ?_))
      have hsb := strsV_at (xs := (rowsI l)) (n := i) (by omega)
      obtain ⟨hbf, hbo, hbl⟩ := new_bounds (t := t) (ls := (rowsI l).take i) (by rw [List.length_take]; omega) i2_1
      have hbx := ri_mem (l := l) (i := i) (by omega)
      have hlx := line_len (d := d) (s := ((rowsI l).getD i []))
      have hX0 := hX
      replace hX := And.intro hsb hX
      refine zAD [0, 0, 0, 6, 14, 31, 63, 127, 127, 0, 767, 2047] ?_
      intro K hK
      refine zFD [0, 0, 0, 6, 14, 31, 63, 127, 127, 0, 767, 2047] (sat_spec_DeskLine2 d ((rowsI l).getD i []) hbf (by omega) (by omega)) ?_
      refine zE [6, 8, 11, 12, 13, 14] ?_
      clear hK K hL
      clear hX
      have hX := hX0
      clear hX0
      refine zS [6, 8, 11, 12, 14] ?_
      refine zS [6, 8, 11, 12, 14, 80] ?_
      refine zC ?_ ?_
      ·intro c6
       refine zS [6, 8, 11, 12] ?_
       intro ρ hL
       refine awl_nil (blk_normal (hR2 _ _ (.mk ?_)))
       have w2 : IntKind.i64.wrap ((i : Int) + 1) = ((i + 1 : Nat) : Int) := by rw [wrap64 (by omega)]; omega
       replace hX := And.intro w2 hX
       revert ρ hL
       refine zS [6, 8, 11, 12] ?_
       intro ρ hL
       refine awl_nil ?_
       refine loop_againW (Wk.keep [9, 10, 11, 12, 13, 14, 15, 7, 8] rfl) _ ?meas ⟨(dskLine d ((rowsI l).getD i [])).1, (o ++ ((dskLine d ((rowsI l).getD i [])).2 ++ [10])), (i + 1), rfl, (by omega), (by exact tell_yes (by omega) i2_1 (fun e => c6 (by rw [e]))), ⟨(by simp only [go_sem, simprocAttr, hL, hX, e2]), (by simp only [go_sem, simprocAttr, hL, hX, e2]; first | done | rfl), (by simp only [go_sem, simprocAttr, hL, hX, e2]; first | done | rfl)⟩, (by simp only [go_sem, simprocAttr, hL, hX, e2]; first | done | rfl)⟩
       case meas => subst hn; omega
      ·intro c6 ρ hL
       refine awl_skip (awl_nil (blk_normal (hR2 _ _ (.mk ?_))))
       have w2 : IntKind.i64.wrap ((i : Int) + 1) = ((i + 1 : Nat) : Int) := by rw [wrap64 (by omega)]; omega
       replace hX := And.intro w2 hX
       revert ρ hL
       refine zS [6, 8, 11, 12] ?_
       intro ρ hL
       refine awl_nil ?_
       refine loop_againW (Wk.keep [9, 10, 11, 12, 13, 14, 15, 7, 8] rfl) _ ?meas ⟨(dskLine d ((rowsI l).getD i [])).1, o, (i + 1), rfl, (by omega), (by exact tell_no (by omega) i2_1 (bt_inj.1 c6)), ⟨(by simp only [go_sem, simprocAttr, hL, hX, e2]), (by simp only [go_sem, simprocAttr, hL, hX, e2]; first | done | rfl), (by simp only [go_sem, simprocAttr, hL, hX, e2]; first | done | rfl)⟩, (by simp only [go_sem, simprocAttr, hL, hX, e2]; first | done | rfl)⟩
       case meas => subst hn; omega
     ·intro c5 ρ hL
      refine awl_exit (loop_break ?_)
      exact ⟨d, o, (by rw [← i2_1, List.take_of_length_le (by omega)]), ⟨(by simp only [go_sem, simprocAttr, hL, hX, e2]), (hL.2.2.1)⟩, rfl⟩
    case after2 =>
     clear hL
     obtain ⟨d, o, j2_0, hL, hG⟩ := hJ
     subst hG
     try simp only [go_sem, simprocAttr, e2, hX] at hL
     revert ρ hL
     refine zS [4, 5] ?_
     refine zR ?_
     try simp only [go_sem, simprocAttr]
     all_goals try clear hR1
     all_goals ((try clear hR2); rw [ses_go (by simpa using c1) (by omega) j2_0]; try rfl)
end
end Go.Proofs.YtgpjgljgplngpaaGreatDoor.AM
