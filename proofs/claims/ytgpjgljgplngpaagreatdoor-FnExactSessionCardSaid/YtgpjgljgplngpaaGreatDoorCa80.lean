/- Names, texts in pieces. No conditions but those each theorem bears. -/
import Derived.Test.YtgpjgljgplngpaaGreatDoorFa
import Derived.Test.YtgpjgljgplngpaaGreatDoorXL
import Derived.Test.YtgpjgljgplngpaaGreatDoorX1
import Derived.Test.YtgpjgljgplngpaaGreatDoorCa70
import Derived.Test.YtgpjgljgplngpaaGreatDoorCb3
set_option linter.unusedSimpArgs false
set_option linter.unusedVariables false
namespace Go.Proofs.YtgpjgljgplngpaaGreatDoor.AM
open Go
set_option maxHeartbeats 8000000
set_option maxRecDepth 100000
section
attribute [local go_sem] mk_bt
theorem sat_spec_l7Names   : Sat Tryz.prog 124 [] [] (.slice 0 0 16 16) [⟨1, strsV namesT, true, false⟩] := by
 have hX := trivial
 refine sat_mk [.tmp 0] 0 2 Tryz.call124 Tryz.func124 Tryz.ntmps124 rfl rfl rfl rfl rfl ?_
 refine awl_live' [] fun ρ hL => ?_
 clear hL
 have hL := trivial
 refine zA ?_
 intro K hK
 refine hK _ _ (.mk (awl_live' [] fun ρ hM => ?_))
 clear hK K hL hM
 have hM := trivial
 revert ρ hM
 intro ρ hL
 refine zA ?_
 intro K hK
 refine zE [0] ?_
 clear hK K hL
 refine zK [0] [0] ?_ ?_
 all_goals try simp only [go_sem, simprocAttr, hX]
 all_goals (first | done | rfl | (simp; done) | (simp [inR]; done) | (simp_all [inR]; done) | (simp [inR]; grind))
end
section
attribute [local go_sem] mk_bt
theorem sat_impl_opNames   : Sat Tryz.prog 131 [] [] (.slice 0 0 16 16) [⟨1, strsV namesT, true, false⟩] := by
 have hX := trivial
 refine sat_mk [.tmp 0] 0 2 Tryz.call131 Tryz.func131 Tryz.ntmps131 rfl rfl rfl rfl rfl ?_
 refine awl_live' [] fun ρ hL => ?_
 clear hL
 have hL := trivial
 refine zA ?_
 intro K hK
 refine hK _ _ (.mk (awl_live' [] fun ρ hM => ?_))
 clear hK K hL hM
 have hM := trivial
 revert ρ hM
 intro ρ hL
 refine zA ?_
 intro K hK
 refine zE [0] ?_
 clear hK K hL
 refine zK [0] [0] ?_ ?_
 all_goals try simp only [go_sem, simprocAttr, hX]
 all_goals (first | done | rfl | (simp; done) | (simp [inR]; done) | (simp_all [inR]; done) | (simp [inR]; grind))
end
section
attribute [local go_sem] strsV_len
theorem sat_slices_Index_string_string (xs : List Bs) (w : Bs) (hb : xs.length ≤ 1099511627776) : Sat Tryz.prog 130 [.sl xs.length xs.length (strsV xs), .str (bt w)] [] (.int .i64 (idxT xs w 0)) [] := by
 have hX := trivial
 refine sat_mk [.tmp 4] 0 19 Tryz.call130 Tryz.func130 Tryz.ntmps130 rfl rfl rfl rfl rfl ?_
 refine zI [0, 1] ?_
 refine zS [0, 1] ?_
 refine zS [0, 1, 7, 8] ?_
 intro ρ hL
 have e1 := hL
 refine awl_loopH (fun H0 n σ G => ∃ (i : Nat), n = xs.length - i ∧ (i ≤ xs.length) ∧ (idxT (xs.drop i) w i = idxT xs w 0) ∧ (liveE [0, 1, 7] σ ρ ∧ σ 8 = .int .i64 (i : Int)) ∧ G = H0) (fun H0 σ G => (idxT xs w 0 = -1) ∧ (True) ∧ G = H0) ((fun (i : Nat) => xs.length - i) 0) ?init1 (fun n ρ G hI => ?round1) (fun ρ G hJ => ?after1)
 case init1 => exact ⟨0, rfl, (Nat.zero_le _), (rfl), ⟨liveE_refl _ _, (hL.2.2.2)⟩, rfl⟩
 case round1 =>
  clear hL
  obtain ⟨i, hn, i1_0, i1_1, hL, hG⟩ := hI
  subst hG
  try simp only [go_sem, simprocAttr, e1, hX] at hL
  revert ρ hL
  refine zS [0, 1, 7, 8, 9] ?_
  refine zC ?_ ?_
  ·intro c1
   have hi1 : i < xs.length := by omega
   replace hX := And.intro hi1 hX
   intro ρ hL
   refine awl_skip (awl_seq (awl_block fun R1 hw1 hR1 => ?_))
   revert ρ hL
   refine zS [0, 1, 5, 7, 8] ?_
   have hsa := strsV_at hi1
   refine zSX [0, 1, 5, 7, 8, 16] (And.intro hsa hX) ?_
   refine zC ?_ ?_
   ·intro c2
    refine zS [4] ?_
    refine zR ?_
    try simp only [go_sem, simprocAttr]
    all_goals ((try clear hR1); rw [← i1_1, idxT_at hi1, if_pos (bt_inj.1 c2).symm])
   ·intro c2 ρ hL
    refine awl_skip (awl_nil (blk_normal (hR1 _ _ (.mk ?_))))
    have w1 : IntKind.i64.wrap ((i : Int) + 1) = ((i + 1 : Nat) : Int) := by rw [wrap64 (by omega)]; omega
    replace hX := And.intro w1 hX
    revert ρ hL
    refine zS [0, 1, 7, 8] ?_
    intro ρ hL
    refine awl_nil ?_
    refine loop_again _ ?meas ⟨i + 1, rfl, (by omega), (by rw [← i1_1, idxT_at hi1, if_neg (fun e => c2 (by rw [e]))]), ⟨(by simp only [go_sem, simprocAttr, hL, hX, e1]), (hL.2.2.2)⟩, rfl⟩
    case meas => subst hn; omega
  ·intro c1 ρ hL
   refine awl_exit (loop_break ?_)
   exact ⟨(by rw [← i1_1, idxT_end (by omega)]), trivial, rfl⟩
 case after1 =>
  clear hL
  obtain ⟨j1_0, hL, hG⟩ := hJ
  subst hG
  refine zA ?_
  intro K hK
  refine zE [4] ?_
  clear hK K hL
  refine zR ?_
  try simp only [go_sem, simprocAttr]
  all_goals ((try clear hR1); rw [j1_0])
end
section
attribute [local go_sem] mk_bt bt_app bt_fits bt_size bt_ext List.length_cons List.length_nil List.length_append List.length_replicate List.take_length strsV_len strsV_rep Nat.sub_zero Nat.max_self Option.isSome_none Option.isNone_some Int.le_refl
theorem sat_strings_genSplit (l : Bs) (c : UInt8) (hl : l.length ≤ 1048576) : Sat Tryz.prog 85 [.str (bt l), .str (bt [c]), .int .i64 0, .int .i64 (-1)] [] (.slice 0 0 (splitB c l).length (splitB c l).length) [⟨1, strsV (splitB c l), true, false⟩] := by
 have hX := trivial
 refine sat_mk [.tmp 8] 0 66 Tryz.call85 Tryz.func85 Tryz.ntmps85 rfl rfl rfl rfl rfl ?_
 refine zI [0, 1, 2, 3] ?_
 refine zS [0, 1, 2, 3] ?_
 refine zS [0, 1, 2, 3, 13] ?_
 refine zQ ?_ ?_
 ·intro c1
  try simp only [cnd] at c1
  first | done | simp at c1
 ·intro c1
  try simp only [cnd] at c1
  intro ρ hL
  refine awl_skip ?_
  revert ρ hL
  refine zS [0, 1, 2, 3, 15] ?_
  refine zQ ?_ ?_
  ·intro c2
   try simp only [cnd] at c2
   first | done | (simp [bt_inj] at c2)
  ·intro c2
   try simp only [cnd] at c2
   intro ρ hL
   refine awl_skip ?_
   revert ρ hL
   refine zS [0, 1, 2, 3, 20] ?_
   refine zQ ?_ ?_
   ·intro c3
    try simp only [cnd] at c3
    have hsl := splitB_len (c := c) (l := l)
    have hcl : l.count c ≤ l.length := List.count_le_length
    have hw6 : IntKind.i64.wrap (((Lib.countByte l c : Nat) : Int) + 1) = (((splitB c l).length : Nat) : Int) := by rw [wrap64 (by unfold Lib.countByte; omega), hsl]; rfl
    refine zSFX [0, 1, 2, 3] (sat_strings_Count l c) (And.intro hw6 hX) ?_
    have hw7 : IntKind.i64.wrap ((l.length : Int) + 1) = ((l.length + 1 : Nat) : Int) := by rw [wrap64 (by omega)]; omega
    have hmn : min ((l.length + 1 : Nat) : Int) (((splitB c l).length : Nat) : Int) = (((splitB c l).length : Nat) : Int) := by omega
    refine zSX [0, 1, 2, 3] (And.intro hw7 (And.intro hmn hX)) ?_
    refine zS [0, 1, 2, 3, 9] ?_
    have hw9 : IntKind.i64.wrap ((((splitB c l).length : Nat) : Int) - 1) = (((splitB c l).length - 1 : Nat) : Int) := by rw [wrap64 (by omega)]; omega
    refine zSX [0, 1, 2, 3, 9] (And.intro hw9 hX) ?_
    refine zS [0, 1, 2, 3, 9, 10] ?_
    intro ρ hL
    refine awl_seq ?_
    have e1 := hL
    refine awl_loopH (fun H0 n σ G => ∃ (D : List Bs) (r : Bs), n = (splitB c l).length - D.length ∧ (splitB c l = D ++ splitB c r) ∧ (r.length ≤ 1048576) ∧ (liveE [1, 2, 3, 9] σ ρ ∧ σ 0 = .str (bt r) ∧ σ 10 = .int .i64 (D.length : Int)) ∧ G = [⟨1, strsV (D ++ List.replicate ((splitB c l).length - D.length) []), true, false⟩]) (fun H0 σ G => ∃ (D : List Bs) (r : Bs), (splitB c l = D ++ [r]) ∧ (liveE [9] σ ρ ∧ σ 0 = .str (bt r) ∧ σ 10 = .int .i64 (D.length : Int)) ∧ G = [⟨1, strsV (D ++ List.replicate 1 []), true, false⟩]) ((fun (D : List Bs) (r : Bs) => (splitB c l).length - D.length) []  l) ?init1 (fun n ρ G hI => ?round1) (fun ρ G hJ => ?after1)
    case init1 => exact ⟨[], l, rfl, (rfl), (hl), ⟨liveE_refl _ _, (hL.1), (hL.2.2.2.2.2)⟩, rfl⟩
    case round1 =>
     clear hL
     obtain ⟨D, r, hn, i1_0, i1_1, hL, hG⟩ := hI
     subst hG
     try simp only [go_sem, simprocAttr, e1, hX] at hL
     revert ρ hL
     refine zS [0, 1, 2, 3, 9, 10, 36] ?_
     refine zC ?_ ?_
     ·intro c4 ρ hL
      refine awl_skip (awl_block fun R1 hw1 hR1 => ?_)
      have hrl : (splitB c r).length = (splitB c l).length - D.length := by have := congrArg List.length i1_0; rw [List.length_append] at this; omega
      have hge := split_more (l := r) (c := c) (by omega)
      obtain ⟨m, hm⟩ := Int.eq_ofNat_of_zero_le hge
      have hca := cutB_at hm
      revert ρ hL
      refine zSFX [0, 1, 2, 3, 9, 10, 11] (sat_strings_Index r c) (And.intro hm hX) ?_
      refine zS [0, 1, 2, 3, 9, 10, 11, 41] ?_
      refine zQ ?_ ?_
      ·intro c5
       try simp only [cnd] at c5
       omega
      ·intro c5
       try simp only [cnd] at c5
       intro ρ hL
       refine awl_skip ?_
       have hw14 : IntKind.i64.wrap ((m : Int) + 0) = (m : Int) := wrap64 (by omega)
       have hga : (0 : Int) ≤ (m : Int) := by omega
       have hgb : (m : Int) ≤ (r.length : Int) := by omega
       have hgc : (0 : Int) ≤ (D.length : Int) := by omega
       have hgd : (D.length : Int) < (((splitB c l).length : Nat) : Int) := by omega
       have hpu := put_strs (D := D) (n := (splitB c l).length - D.length) (x := r.take m) (by omega)
       revert ρ hL
       refine zSX [0, 1, 2, 3, 9, 10, 11] (And.intro hw14 (And.intro hga (And.intro hgb (And.intro hgc (And.intro hgd (And.intro hpu hX)))))) ?_
       have hw15 : IntKind.i64.wrap ((m : Int) + 1) = ((m + 1 : Nat) : Int) := by rw [wrap64 (by omega)]; omega
       have hge1 : (0 : Int) ≤ ((m + 1 : Nat) : Int) := by omega
       have hgf : ((m + 1 : Nat) : Int) ≤ (r.length : Int) := by omega
       refine zSX [0, 1, 2, 3, 9, 10] (And.intro hw15 (And.intro hge1 (And.intro hgf hX))) ?_
       have hw16 : IntKind.i64.wrap ((D.length : Int) + 1) = ((D.length + 1 : Nat) : Int) := by rw [wrap64 (by omega)]; omega
       refine zSX [0, 1, 2, 3, 9, 10] (And.intro hw16 hX) ?_
       intro ρ hL
       refine awl_nil (blk_normal (hR1 _ _ (.mk ?_)))
       refine awl_nil ?_
       refine loop_againW (Wk.keep [0] rfl) _ ?meas ⟨(D ++ [r.take m]), (r.drop (m + 1)), rfl, (by rw [i1_0, splitB_at hm, List.append_assoc]; rfl), (by rw [List.length_drop]; omega), ⟨(by simp only [go_sem, simprocAttr, hL, hX, e1]), (by simp only [go_sem, simprocAttr, hL, hX, e1]; first | done | rfl), (by simp only [go_sem, simprocAttr, hL, hX, e1]; first | done | rfl)⟩, (by simp only [go_sem, simprocAttr, hL, hX, e1]; try rw [Nat.sub_sub])⟩
       case meas => subst hn; simp only [List.length_append, List.length_cons, List.length_nil]; omega
     ·intro c4 ρ hL
      refine awl_exit (loop_break ?_)
      exact ⟨D, r, (by rw [i1_0, split_last (by have := congrArg List.length i1_0; rw [List.length_append] at this; have := splitB_len (c := c) (l := r); omega)]), ⟨(by simp only [go_sem, simprocAttr, hL, hX, e1]), (hL.1), (hL.2.2.2.2.2.1)⟩, (by rw [show (splitB c l).length - D.length = 1 by have := congrArg List.length i1_0; rw [List.length_append] at this; have := splitB_len (c := c) (l := r); omega])⟩
    case after1 =>
     clear hL
     obtain ⟨D, r, j1_0, hL, hG⟩ := hJ
     subst hG
     try simp only [go_sem, simprocAttr, e1, hX] at hL
     have hNd : (splitB c l).length = D.length + 1 := by rw [j1_0]; simp
     have hgc : (0 : Int) ≤ (D.length : Int) := by omega
     have hgd : (D.length : Int) < (((splitB c l).length : Nat) : Int) := by omega
     have hpu : putAt (strsV (D ++ [[]])) D.length [.str (bt r)] = strsV (D ++ [r]) := by have := put_strs (D := D) (n := 1) (x := r) (by omega); simpa using this
     revert ρ hL
     refine zSX [9, 10] (And.intro hgc (And.intro hgd (And.intro hpu hX))) ?_
     have hw16 : IntKind.i64.wrap ((D.length : Int) + 1) = (((splitB c l).length : Nat) : Int) := by rw [wrap64 (by omega)]; omega
     have hgh : (0 : Int) ≤ (((splitB c l).length : Nat) : Int) := by omega
     refine zSX [8] (And.intro hw16 (And.intro hgh hX)) ?_
     refine zK [0] [0] ?_ ?_
     all_goals try simp only [go_sem, simprocAttr, hX]
     all_goals ((try clear hR1); first | done | rfl | (rw [j1_0]; done) | (simp [j1_0]; done))
   ·intro c3
    try simp only [cnd] at c3
    first | done | (exact absurd trivial c3)
end
theorem sat_strings_Split (l : Bs) (c : UInt8) (hl : l.length ≤ 1048576) : Sat Tryz.prog 39 [.str (bt l), .str (bt [c])] [] (.slice 0 0 (splitB c l).length (splitB c l).length) [⟨1, strsV (splitB c l), true, false⟩] := by
 have hX := trivial
 refine sat_mk [.tmp 4] 0 8 Tryz.call39 Tryz.func39 Tryz.ntmps39 rfl rfl rfl rfl rfl ?_
 refine zI [0, 1] ?_
 refine zS [0, 1] ?_
 refine zSF [4] (sat_strings_genSplit l c hl) ?_
 refine zK [0] [0] ?_ ?_
 all_goals try simp only [go_sem, simprocAttr, hX]
 all_goals (first | done | rfl | (simp; done) | (simp [inR]; done) | (simp_all [inR]; done) | (simp [inR]; grind))
end Go.Proofs.YtgpjgljgplngpaaGreatDoor.AM
