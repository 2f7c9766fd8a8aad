/- Commands read, the other way. No conditions but those each theorem bears. -/
import Derived.Test.YtgpjgljgplngpaaGreatDoorFa
import Derived.Test.YtgpjgljgplngpaaGreatDoorCa83
set_option linter.unusedSimpArgs false
set_option linter.unusedVariables false
namespace Go.Proofs.YtgpjgljgplngpaaGreatDoor.AM
open Go
set_option maxHeartbeats 8000000
set_option maxRecDepth 100000
theorem sat_split_words (l : Bs) (hl : l.length ≤ 1048576) : Sat Tryz.prog 39 [.str (bt l), .str (bt [32])] [] (.slice 0 0 (wordsI l).length (wordsI l).length) [⟨1, strsV (wordsI l), true, false⟩] := sat_strings_Split l 32 hl
section
attribute [local go_sem] mk_bt bt_app bt_fits strsV_len form_size Nat.max_self Nat.sub_zero Option.isSome_none Option.isNone_none Option.isNone_some Int.le_refl
theorem sat_impl_InsRead (l : Bs) (hl : l.length ≤ 1048576) : Sat Tryz.prog 71 [.str (bt l)] [] (.tuple [.agg (insRead l).1.cells, .bool (insRead l).2]) [] := by
 have hX := trivial
 refine sat_mk [.cell 2 92, .tmp 3] 0 67 Tryz.call71 Tryz.func71 Tryz.ntmps71 rfl rfl rfl rfl rfl ?_
 refine zI [0] ?_
 refine zS [0, 2] ?_
 refine zSF [0, 2, 4] (sat_split_words l hl) ?_
 have hwl : 0 < (wordsI l).length := words_pos
 have hwi : (0 : Int) < ((wordsI l).length : Int) := by omega
 have hwa := words_head (l := l)
 have hnn := names_len
 have hX0 := hX
 replace hX := And.intro hwi (And.intro hwa (And.intro hnn hX))
 intro ρ hL
 refine zAD [0, 0, 2, 6, 15, 31, 0, 127] ?_
 intro K hK
 refine zFD [0, 0, 2, 6, 15, 31, 0, 127] (sat_impl_opNames) ?_
 refine zFD [0, 0, 2, 6, 15, 31, 0, 127] (sat_slices_Index_string_string namesT ((wordsI l).getD 0 []) (by decide)) ?_
 refine zE [0, 2, 4, 5] ?_
 clear hK K hL
 clear hX
 have hX := hX0
 clear hX0
 refine zSF [0, 2, 4, 5, 6, 7] (sat_impl_formOf (opI l)) ?_
 have hfl := formL_len (op := opI l)
 have hw4 : IntKind.i64.wrap (((formL (opI l)).length : Int) + 1) = (((formL (opI l)).length + 1 : Nat) : Int) := by rw [wrap64 (by omega)]; omega
 have hX0 := hX
 replace hX := And.intro hw4 hX
 intro ρ hL
 refine zA ?_
 intro K hK
 refine zL [0, 2, 4, 5, 6, 28] ?_
 clear hL
 intro ρ hL
 refine grp_orN (v := ?v1) 6 rfl [0, 2, 4, 5, 6] hL.2.2.2.2.2 rfl (fun hb K1 hK1 => ?run) (fun hb => skA (want := false) (b := _) (by rw [hb]; rfl) hL.2.2.2.2.2 rfl) (fun ρ hP hM => ?_)
 case run => exact zR1
 refine zPp ?_
 clear hL hP hM
 intro hL
 refine zE [0, 2, 4, 5, 6, 35] ?_
 clear hK K hL
 clear hX
 have hX := hX0
 clear hX0
 refine zC ?_ ?_
 ·intro c1
  refine zS [2, 3] ?_
  refine zR ?_
  try simp only [go_sem, simprocAttr]
  all_goals (rw [ir_no (c1.imp id (fun h e => h (by omega)))]; try rfl)
 ·intro c1 ρ hL
  refine awl_skip ?_
  have hcl := c1
  have hio : inR (opI l) 1 15 = true := by simpa using c1.1
  have hln : (wordsI l).length = (formL (opI l)).length + 1 := by have := c1.2; omega
  have hs1 : (1 : Int) ≤ ((wordsI l).length : Int) := by omega
  have hs0 : (0 : Int) ≤ (1 : Int) := by omega
  revert ρ hL
  refine zSX [0, 2, 5, 6, 38, 39, 40] (And.intro hs1 (And.intro hs0 hX)) ?_
  intro ρ hL
  have e1 := hL
  refine awl_loopH (fun H0 n σ G => ∃ (x : Ins) (i : Nat), n = (wordsI l).length - 1 - i ∧ (i ≤ ((wordsI l).length - 1)) ∧ (fillI ((formL (opI l)).drop i) (((wordsI l).drop 1).drop i) x = fillI (formL (opI l)) ((wordsI l).drop 1) (Ins.mk (opI l) 0 0 0 0)) ∧ (liveE [0, 2, 5, 6, 38, 39] σ ρ ∧ σ 40 = .int .i64 (i : Int)) ∧ G = [⟨5, [.int .i64 0, .int .i64 0, .int .i64 0, .int .i64 0, .int .i64 0], true, false⟩, ⟨1, strsV (wordsI l), true, false⟩, ⟨1, strsV namesT, true, false⟩, ⟨5, x.cells, true, false⟩]) (fun H0 σ G => ∃ (x : Ins), (fillI (formL (opI l)) ((wordsI l).drop 1) (Ins.mk (opI l) 0 0 0 0) = some x) ∧ (liveE [0, 2, 5] σ ρ) ∧ G = [⟨5, [.int .i64 0, .int .i64 0, .int .i64 0, .int .i64 0, .int .i64 0], true, false⟩, ⟨1, strsV (wordsI l), true, false⟩, ⟨1, strsV namesT, true, false⟩, ⟨5, x.cells, true, false⟩]) ((fun (x : Ins) (i : Nat) => (wordsI l).length - 1 - i) (Ins.mk (opI l) 0 0 0 0)  0) ?init1 (fun n ρ G hI => ?round1) (fun ρ G hJ => ?after1)
  case init1 => exact ⟨(Ins.mk (opI l) 0 0 0 0), 0, rfl, (Nat.zero_le _), (rfl), ⟨liveE_refl _ _, (hL.2.2.2.2.2.2)⟩, rfl⟩
  case round1 =>
   clear hL
   obtain ⟨x, i, hn, i1_0, i1_1, hL, hG⟩ := hI
   subst hG
   try simp only [go_sem, simprocAttr, e1, hX] at hL
   revert ρ hL
   refine zS [0, 2, 5, 6, 38, 39, 40, 41] ?_
   refine zC ?_ ?_
   ·intro c2
    have hi1 : i < ((wordsI l).length - 1) := by omega
    replace hX := And.intro hi1 hX
    intro ρ hL
    refine awl_skip (awl_seq (awl_block fun R1 hw1 hR1 => ?_))
    have hi2 : 1 + i < (wordsI l).length := by omega
    have hsa := strsV_at hi2
    have hwe := word_le hi2
    revert ρ hL
    refine zSX [0, 2, 5, 6, 8, 9, 38, 39, 40] (And.intro hsa hX) ?_
    intro ρ hL
    refine zA ?_
    intro K hK
    refine zF (sat_strings_TrimPrefix ((wordsI l).getD (1 + i) []) [114]) ?_
    refine zF (sat_strconv_Atoi (Lib.trimPrefix ((wordsI l).getD (1 + i) []) [114]) (Nat.le_trans trim_len (by omega))) ?_
    refine zE [0, 2, 5, 6, 8, 10, 11, 38, 39, 40] ?_
    clear hK K hL
    have q0 := errV_neq (P := Tryz.prog) (t := 159) (b := (atoV (Lib.trimPrefix ((wordsI l).getD (1 + i) []) [114])).2) tif159
    intro ρ hL
    simp only [go_sem, simprocAttr] at q0
    have g0 := errV_gOk (x := .tmp 51) (c := .nilIface) (b := (atoV (Lib.trimPrefix ((wordsI l).getD (1 + i) []) [114])).2)
    simp only [go_sem, simprocAttr] at g0
    repeat refine awl_seq ?_
    refine awl_regS _ rfl fun K hK => ?_
    try simp only [go_sem, simprocAttr, hL, hX, q0, g0]
    repeat' refine And.intro (by first | rfl | omega | (simp; done)) ?_
    refine hK _ _ (.mk (awl_live' [0, 2, 5, 6, 8, 10, 38, 39, 40, 52] fun ρ hM => ?_))
    try simp only [go_sem, simprocAttr, hL, hX, q0, g0] at hM
    clear hK K hL
    revert ρ hM
    refine zC ?_ ?_
    ·intro c3
     refine zS [2, 3] ?_
     refine zR ?_
     try simp only [go_sem, simprocAttr]
     all_goals ((try clear hR1); rw [ir_none hio hln (by rw [← i1_1, fillI_no (by omega) (by rw [List.length_drop]; omega) (by rw [drop_getD]; simpa using c3)])]; try rfl)
    ·intro c3 ρ hL
     refine awl_skip ?_
     have hfb : bat (form (opI l)) i = (((formL (opI l)).getD i 0).toNat : Int) := bt_bat
     have hs3 : (0 : Int) ≤ (i : Int) := by omega
     have hs4 : (i : Int) < ((formL (opI l)).length : Int) := by omega
     have hX0 := hX
     replace hX := And.intro hfb (And.intro hs3 (And.intro hs4 hX))
     refine zAD [0, 0, 0, 6, 0, 31, 63] ?_
     intro K hK
     refine zFD [0, 0, 0, 6, 0, 31, 63] (sat_impl_withPart x ((formL (opI l)).getD i 0) (atoV (Lib.trimPrefix ((wordsI l).getD (1 + i) []) [114])).1) ?_
     refine zE [0, 2, 5, 6, 38, 39, 40] ?_
     clear hK K hL
     clear hX
     have hX := hX0
     clear hX0
     intro ρ hL
     refine awl_nil (blk_normal (hR1 _ _ (.mk ?_)))
     have w1 : IntKind.i64.wrap ((i : Int) + 1) = ((i + 1 : Nat) : Int) := by rw [wrap64 (by omega)]; omega
     replace hX := And.intro w1 hX
     revert ρ hL
     refine zS [0, 2, 5, 6, 38, 39, 40] ?_
     intro ρ hL
     refine awl_nil ?_
     refine loop_again _ ?meas ⟨(withP x ((formL (opI l)).getD i 0) (atoV (Lib.trimPrefix ((wordsI l).getD (1 + i) []) [114])).1), (i + 1), rfl, (by omega), (by have hfa := fillI_at (F := (formL (opI l))) (ws := ((wordsI l).drop 1)) (x := x) (i := i) (by omega) (by rw [List.length_drop]; omega) (by rw [drop_getD]; exact c3); rw [drop_getD] at hfa; rw [← i1_1, hfa]), ⟨(by simp only [go_sem, simprocAttr, hL, hX, e1]), (hL.2.2.2.2.2.2)⟩, rfl⟩
     case meas => subst hn; omega
   ·intro c2 ρ hL
    refine awl_exit (loop_break ?_)
    exact ⟨x, (by rw [← i1_1, fillI_end (by omega)]), (by simp only [go_sem, simprocAttr, hL, hX, e1]), rfl⟩
  case after1 =>
   clear hL
   obtain ⟨x, j1_0, hL, hG⟩ := hJ
   subst hG
   try simp only [go_sem, simprocAttr, e1, hX] at hL
   revert ρ hL
   refine zSF [2, 5, 64] (sat_impl_InsText x) ?_
   refine zC ?_ ?_
   ·intro c4
    refine zS [2, 3] ?_
    refine zR ?_
    try simp only [go_sem, simprocAttr]
    all_goals ((try clear hR1); rw [ir_bad hio hln j1_0 c4]; try rfl)
   ·intro c4 ρ hL
    refine awl_skip ?_
    revert ρ hL
    refine zS [2, 3] ?_
    refine zR ?_
    try simp only [go_sem, simprocAttr]
    all_goals ((try clear hR1); rw [ir_good hio hln j1_0 (by simpa using c4)]; try rfl)
end
end Go.Proofs.YtgpjgljgplngpaaGreatDoor.AM
