/- Commands as texts. No conditions but those each theorem bears. -/
import Derived.Test.YtgpjgljgplngpaaGreatDoorFa
import Derived.Test.YtgpjgljgplngpaaGreatDoorCa80
import Derived.Test.YtgpjgljgplngpaaGreatDoorX1
set_option linter.unusedSimpArgs false
set_option linter.unusedVariables false
namespace Go.Proofs.YtgpjgljgplngpaaGreatDoor.AM
open Go
set_option maxHeartbeats 8000000
set_option maxRecDepth 100000
section
attribute [local go_sem] mk_bt bt_app bt_fits
theorem sat_spec_InsText (x : Ins)  : Sat Tryz.prog 120 [.agg x.cells] [] (.str (bt (insT x))) [] := by
 have hX := trivial
 refine sat_mk [.tmp 2] 0 53 Tryz.call120 Tryz.func120 Tryz.ntmps120 rfl rfl rfl rfl rfl ?_
 refine zI [0] ?_
 refine zS [1] ?_
 refine zSF [1, 7] (sat_spec_InsOk _) ?_
 refine zC ?_ ?_
 ·intro c1
  refine zS [2] ?_
  refine zR ?_
  try simp only [go_sem, simprocAttr]
  all_goals (simp [insT, c1, bt])
 ·intro c1 ρ hL
  refine awl_skip ?_
  have hok : insOk x = true := by simpa using c1
  have hop := ins_op_rng hok
  have hnm := names_at hop
  have hnl := name_len (op := x.op)
  have hga : (0 : Int) ≤ x.op := by omega
  have hgb : x.op < 16 := by omega
  have hpr : -128 ≤ x.r ∧ x.r ≤ 127 := part_rng hok 82
  have hpa : -128 ≤ x.a ∧ x.a ≤ 127 := part_rng hok 65
  have hpb : -128 ≤ x.b ∧ x.b ≤ 127 := part_rng hok 66
  have hpn : -128 ≤ x.n ∧ x.n ≤ 127 := part_rng hok 78
  have hlr := itoa_len (n := x.r) (by omega)
  have hla := itoa_len (n := x.a) (by omega)
  have hlb := itoa_len (n := x.b) (by omega)
  have hln := itoa_len (n := x.n) (by omega)
  have hq1 := qT_len (h := has x.op) (k := 1) (n := x.r) (pre := [32, 114]) (by decide) hlr
  have hq2 := qT_len (h := has x.op) (k := 2) (n := x.a) (pre := [32, 114]) (by decide) hla
  have hq3 := qT_len (h := has x.op) (k := 4) (n := x.b) (pre := [32, 114]) (by decide) hlb
  revert ρ hL
  refine zSF [1, 3] (sat_spec_l6Has _) ?_
  have hX0 := hX
  replace hX := And.intro hnm (And.intro hga (And.intro hgb hX))
  intro ρ hL
  refine zAD [0, 0, 2, 7, 15, 31] ?_
  intro K hK
  refine zFD [0, 0, 2, 7, 15, 31] (sat_spec_l7Names) ?_
  refine zE [1, 3, 4] ?_
  clear hK K hL
  clear hX
  have hX := hX0
  clear hX0
  refine zS [1, 3, 4, 18] ?_
  intro ρ hL
  have j1 := hL
  refine awl_joinH (fun H0 σ G => (liveE [1, 3] σ ρ ∧ σ 4 = .str (bt (nameT x.op ++ qT (has x.op) 1 [32, 114] x.r))) ∧ G = H0) ?inner1 (fun ρ G hJ => ?after1)
  case inner1 =>
   refine zN [1, 3, 4, 18] ?_
   clear hL
   refine zC ?_ ?_
   ·intro c2
    have hfaa : lenOk (nameT x.op) [32, 114] = true := lenOk_of (by simp only [List.length_append, List.length_cons, List.length_nil]; omega)
    have hfba : lenOk (nameT x.op ++ [32, 114]) (itoa x.r) = true := lenOk_of (by simp only [List.length_append, List.length_cons, List.length_nil]; omega)
    refine zSFX [1, 3, 4] (sat_spec_l7Digits x.r (by omega)) (And.intro hfaa (And.intro hfba hX)) ?_
    intro ρ hL
    refine awl_nil ?_
    show wkQ _ _ _ _
    refine .mk ⟨⟨(by simp only [go_sem, simprocAttr, hL, hX, j1]), (by rw [hL.2.2]; first | (simp [qT, c2]; done) | (simp [qT, c3]; done) | (simp [qT, c4]; done) | (simp [qT, c5]; done))⟩, rfl⟩
   ·intro c2 ρ hL
    refine awl_skip (awl_nil ?_)
    show wkQ _ _ _ _
    refine .mk ⟨⟨(by simp only [go_sem, simprocAttr, hL, hX, j1]), (by rw [hL.2.2.1]; first | (simp [qT, c2]; done) | (simp [qT, c3]; done) | (simp [qT, c4]; done) | (simp [qT, c5]; done))⟩, rfl⟩
  case after1 =>
   clear hL
   obtain ⟨hL, hG⟩ := hJ
   subst hG
   try simp only [go_sem, simprocAttr, j1, hX] at hL
   revert ρ hL
   refine zS [1, 3, 4, 27] ?_
   intro ρ hL
   have j2 := hL
   refine awl_joinH (fun H0 σ G => (liveE [1, 3] σ ρ ∧ σ 4 = .str (bt (nameT x.op ++ (qT (has x.op) 1 [32, 114] x.r ++ qT (has x.op) 2 [32, 114] x.a)))) ∧ G = H0) ?inner2 (fun ρ G hJ => ?after2)
   case inner2 =>
    refine zN [1, 3, 4, 27] ?_
    clear hL
    refine zC ?_ ?_
    ·intro c3
     have hfab : lenOk (nameT x.op ++ qT (has x.op) 1 [32, 114] x.r) [32, 114] = true := lenOk_of (by simp only [List.length_append, List.length_cons, List.length_nil]; omega)
     have hfbb : lenOk (nameT x.op ++ (qT (has x.op) 1 [32, 114] x.r ++ [32, 114])) (itoa x.a) = true := lenOk_of (by simp only [List.length_append, List.length_cons, List.length_nil]; omega)
     refine zSFX [1, 3, 4] (sat_spec_l7Digits x.a (by omega)) (And.intro hfab (And.intro hfbb hX)) ?_
     intro ρ hL
     refine awl_nil ?_
     show wkQ _ _ _ _
     refine .mk ⟨⟨(by simp only [go_sem, simprocAttr, hL, hX, j2]), (by rw [hL.2.2]; first | (simp [qT, c2]; done) | (simp [qT, c3]; done) | (simp [qT, c4]; done) | (simp [qT, c5]; done))⟩, rfl⟩
    ·intro c3 ρ hL
     refine awl_skip (awl_nil ?_)
     show wkQ _ _ _ _
     refine .mk ⟨⟨(by simp only [go_sem, simprocAttr, hL, hX, j2]), (by rw [hL.2.2.1]; first | (simp [qT, c2]; done) | (simp [qT, c3]; done) | (simp [qT, c4]; done) | (simp [qT, c5]; done))⟩, rfl⟩
   case after2 =>
    clear hL
    obtain ⟨hL, hG⟩ := hJ
    subst hG
    try simp only [go_sem, simprocAttr, j2, hX] at hL
    revert ρ hL
    refine zS [1, 3, 4, 36] ?_
    intro ρ hL
    have j3 := hL
    refine awl_joinH (fun H0 σ G => (liveE [1, 3] σ ρ ∧ σ 4 = .str (bt (nameT x.op ++ (qT (has x.op) 1 [32, 114] x.r ++ (qT (has x.op) 2 [32, 114] x.a ++ qT (has x.op) 4 [32, 114] x.b))))) ∧ G = H0) ?inner3 (fun ρ G hJ => ?after3)
    case inner3 =>
     refine zN [1, 3, 4, 36] ?_
     clear hL
     refine zC ?_ ?_
     ·intro c4
      have hfac : lenOk (nameT x.op ++ (qT (has x.op) 1 [32, 114] x.r ++ qT (has x.op) 2 [32, 114] x.a)) [32, 114] = true := lenOk_of (by simp only [List.length_append, List.length_cons, List.length_nil]; omega)
      have hfbc : lenOk (nameT x.op ++ (qT (has x.op) 1 [32, 114] x.r ++ (qT (has x.op) 2 [32, 114] x.a ++ [32, 114]))) (itoa x.b) = true := lenOk_of (by simp only [List.length_append, List.length_cons, List.length_nil]; omega)
      refine zSFX [1, 3, 4] (sat_spec_l7Digits x.b (by omega)) (And.intro hfac (And.intro hfbc hX)) ?_
      intro ρ hL
      refine awl_nil ?_
      show wkQ _ _ _ _
      refine .mk ⟨⟨(by simp only [go_sem, simprocAttr, hL, hX, j3]), (by rw [hL.2.2]; first | (simp [qT, c2]; done) | (simp [qT, c3]; done) | (simp [qT, c4]; done) | (simp [qT, c5]; done))⟩, rfl⟩
     ·intro c4 ρ hL
      refine awl_skip (awl_nil ?_)
      show wkQ _ _ _ _
      refine .mk ⟨⟨(by simp only [go_sem, simprocAttr, hL, hX, j3]), (by rw [hL.2.2.1]; first | (simp [qT, c2]; done) | (simp [qT, c3]; done) | (simp [qT, c4]; done) | (simp [qT, c5]; done))⟩, rfl⟩
    case after3 =>
     clear hL
     obtain ⟨hL, hG⟩ := hJ
     subst hG
     try simp only [go_sem, simprocAttr, j3, hX] at hL
     revert ρ hL
     refine zS [1, 4, 45] ?_
     intro ρ hL
     have j4 := hL
     refine awl_joinH (fun H0 σ G => (σ 4 = .str (bt (nameT x.op ++ (qT (has x.op) 1 [32, 114] x.r ++ (qT (has x.op) 2 [32, 114] x.a ++ (qT (has x.op) 4 [32, 114] x.b ++ qT (has x.op) 8 [32] x.n)))))) ∧ G = H0) ?inner4 (fun ρ G hJ => ?after4)
     case inner4 =>
      refine zN [1, 4, 45] ?_
      clear hL
      refine zC ?_ ?_
      ·intro c5
       have hfad : lenOk (nameT x.op ++ (qT (has x.op) 1 [32, 114] x.r ++ (qT (has x.op) 2 [32, 114] x.a ++ qT (has x.op) 4 [32, 114] x.b))) [32] = true := lenOk_of (by simp only [List.length_append, List.length_cons, List.length_nil]; omega)
       have hfbd : lenOk (nameT x.op ++ (qT (has x.op) 1 [32, 114] x.r ++ (qT (has x.op) 2 [32, 114] x.a ++ (qT (has x.op) 4 [32, 114] x.b ++ [32])))) (itoa x.n) = true := lenOk_of (by simp only [List.length_append, List.length_cons, List.length_nil]; omega)
       refine zSFX [4] (sat_spec_l7Digits x.n (by omega)) (And.intro hfad (And.intro hfbd hX)) ?_
       intro ρ hL
       refine awl_nil ?_
       show wkQ _ _ _ _
       refine .mk ⟨(by rw [hL]; first | (simp [qT, c2]; done) | (simp [qT, c3]; done) | (simp [qT, c4]; done) | (simp [qT, c5]; done)), rfl⟩
      ·intro c5 ρ hL
       refine awl_skip (awl_nil ?_)
       show wkQ _ _ _ _
       refine .mk ⟨(by rw [hL.2.1]; first | (simp [qT, c2]; done) | (simp [qT, c3]; done) | (simp [qT, c4]; done) | (simp [qT, c5]; done)), rfl⟩
     case after4 =>
      clear hL
      obtain ⟨hL, hG⟩ := hJ
      subst hG
      revert ρ hL
      refine zS [2] ?_
      refine zR ?_
      try simp only [go_sem, simprocAttr]
      all_goals (rw [insT, if_pos hok, qs_all (ins_op hok)])
end
section
attribute [local go_sem] mk_bt bt_app bt_fits byteCells_form form_size
theorem sat_impl_InsText (x : Ins)  : Sat Tryz.prog 136 [.agg x.cells] [] (.str (bt (insT x))) [] := by
 have hX := trivial
 refine sat_mk [.tmp 2] 0 43 Tryz.call136 Tryz.func136 Tryz.ntmps136 rfl rfl rfl rfl rfl ?_
 refine zI [0] ?_
 refine zS [1] ?_
 refine zSF [1, 10] (sat_impl_InsOk _) ?_
 refine zC ?_ ?_
 ·intro c1
  refine zS [2] ?_
  refine zR ?_
  try simp only [go_sem, simprocAttr]
  all_goals (simp [insT, c1, bt])
 ·intro c1 ρ hL
  refine awl_skip ?_
  have hok : insOk x = true := by simpa using c1
  have hop := ins_op_rng hok
  have hnm := names_at hop
  have hnl := name_len (op := x.op)
  have hga : (0 : Int) ≤ x.op := by omega
  have hgb : x.op < 16 := by omega
  have hfl := formL_len (op := x.op)
  have hX0 := hX
  replace hX := And.intro hnm (And.intro hga (And.intro hgb hX))
  refine zAD [0, 0, 2, 7, 15, 31] ?_
  intro K hK
  refine zFD [0, 0, 2, 7, 15, 31] (sat_impl_opNames) ?_
  refine zE [1, 3] ?_
  clear hK K hL
  clear hX
  have hX := hX0
  clear hX0
  refine zSF [1, 3, 4] (sat_impl_formOf _) ?_
  refine zS [1, 3, 23, 24, 25] ?_
  intro ρ hL
  have e1 := hL
  refine awl_loopH (fun H0 n σ G => ∃ (i : Nat), n = (formL x.op).length - i ∧ (i ≤ (formL x.op).length) ∧ (liveE [1, 23, 24] σ ρ ∧ σ 3 = .str (bt (nameT x.op ++ partsT x ((formL x.op).take i))) ∧ σ 25 = .int .i64 (i : Int)) ∧ G = H0) (fun H0 σ G => (σ 3 = .str (bt (nameT x.op ++ partsT x (formL x.op)))) ∧ G = H0) ((fun (i : Nat) => (formL x.op).length - i) 0) ?init1 (fun n ρ G hI => ?round1) (fun ρ G hJ => ?after1)
  case init1 => exact ⟨0, rfl, (Nat.zero_le _), ⟨liveE_refl _ _, (by rw [hL.2.1]; simp [partsT]), (hL.2.2.2.2)⟩, rfl⟩
  case round1 =>
   clear hL
   obtain ⟨i, hn, i1_0, hL, hG⟩ := hI
   subst hG
   try simp only [go_sem, simprocAttr, e1, hX] at hL
   revert ρ hL
   refine zS [1, 3, 23, 24, 25, 26] ?_
   refine zC ?_ ?_
   ·intro c2
    have hi1 : i < (formL x.op).length := by omega
    replace hX := And.intro hi1 hX
    intro ρ hL
    refine awl_skip (awl_seq (awl_block fun R1 hw1 hR1 => ?_))
    have hba := bytesV_at hi1
    revert ρ hL
    refine zSX [1, 3, 7, 23, 24, 25] (And.intro hba hX) ?_
    have hpl := take_parts hok hfl i
    have hfa : lenOk (nameT x.op ++ partsT x ((formL x.op).take i)) [32] = true := lenOk_of (by simp only [List.length_append, List.length_cons, List.length_nil]; omega)
    refine zSX [1, 3, 7, 23, 24, 25] (And.intro hfa hX) ?_
    refine zS [1, 3, 7, 23, 24, 25, 32] ?_
    intro ρ hL
    have j2 := hL
    refine awl_joinH (fun H0 σ G => (liveE [1, 7, 23, 24, 25] σ ρ ∧ σ 3 = .str (bt (nameT x.op ++ (partsT x ((formL x.op).take i) ++ 32 :: preT ((formL x.op).getD i 0))))) ∧ G = H0) ?inner2 (fun ρ G hJ => ?after2)
    case inner2 =>
     refine zN [1, 3, 7, 23, 24, 25, 32] ?_
     clear hL
     refine zC ?_ ?_
     ·intro c3
      have hfb : lenOk (nameT x.op ++ (partsT x ((formL x.op).take i) ++ [32])) [114] = true := lenOk_of (by simp only [List.length_append, List.length_cons, List.length_nil]; omega)
      refine zSX [1, 3, 7, 23, 24, 25] (And.intro hfb hX) ?_
      intro ρ hL
      refine awl_nil ?_
      show wkQ _ _ _ _
      refine .mk ⟨⟨(by simp only [go_sem, simprocAttr, hL, hX, j2]), (by rw [hL.2.1]; first | (rw [show preT ((formL x.op).getD i 0) = [] from if_pos (UInt8.toNat_inj.1 (show ((formL x.op).getD i 0).toNat = 78 by omega))]; done) | (rw [show preT ((formL x.op).getD i 0) = [114] from if_neg (fun e => c3 (by rw [e]; rfl))]; done))⟩, rfl⟩
     ·intro c3 ρ hL
      refine awl_skip (awl_nil ?_)
      show wkQ _ _ _ _
      refine .mk ⟨⟨(by simp only [go_sem, simprocAttr, hL, hX, j2]), (by rw [hL.2.1]; first | (rw [show preT ((formL x.op).getD i 0) = [] from if_pos (UInt8.toNat_inj.1 (show ((formL x.op).getD i 0).toNat = 78 by omega))]; done) | (rw [show preT ((formL x.op).getD i 0) = [114] from if_neg (fun e => c3 (by rw [e]; rfl))]; done))⟩, rfl⟩
    case after2 =>
     clear hL
     obtain ⟨hL, hG⟩ := hJ
     subst hG
     try simp only [go_sem, simprocAttr, j2, hX] at hL
     have hpr := part_rng hok (((formL x.op).getD i 0).toNat : Int)
     have hil := itoa_part hok (((formL x.op).getD i 0).toNat : Int)
     have hpp : (preT ((formL x.op).getD i 0)).length ≤ 1 := by unfold preT; split <;> simp
     have hfc : lenOk (nameT x.op ++ (partsT x ((formL x.op).take i) ++ 32 :: preT ((formL x.op).getD i 0))) (itoa (partI x (((formL x.op).getD i 0).toNat : Int))) = true := lenOk_of (by simp only [List.length_append, List.length_cons, List.length_nil]; omega)
     have hX0 := hX
     replace hX := And.intro hfc hX
     refine zA ?_
     intro K hK
     refine zF (sat_impl_partOf x (((formL x.op).getD i 0).toNat : Int)) ?_
     refine zF (sat_strconv_Itoa (partI x (((formL x.op).getD i 0).toNat : Int)) (by omega)) ?_
     refine zE [1, 3, 23, 24, 25] ?_
     clear hK K hL
     clear hX
     have hX := hX0
     clear hX0
     intro ρ hL
     refine awl_nil (blk_normal (hR1 _ _ (.mk ?_)))
     have w1 : IntKind.i64.wrap ((i : Int) + 1) = ((i + 1 : Nat) : Int) := by rw [wrap64 (by omega)]; omega
     replace hX := And.intro w1 hX
     revert ρ hL
     refine zS [1, 3, 23, 24, 25] ?_
     intro ρ hL
     refine awl_nil ?_
     refine loop_again _ ?meas ⟨i + 1, rfl, (by omega), ⟨(by simp only [go_sem, simprocAttr, hL, hX, e1]), (by simp only [go_sem, simprocAttr, hL, hX, e1]; rw [← parts_step hi1]), (hL.2.2.2.2)⟩, rfl⟩
     case meas => subst hn; omega
   ·intro c2 ρ hL
    refine awl_exit (loop_break ?_)
    exact ⟨(by rw [hL.2.1, List.take_of_length_le (by omega)]), rfl⟩
  case after1 =>
   clear hL
   obtain ⟨hL, hG⟩ := hJ
   subst hG
   revert ρ hL
   refine zS [2] ?_
   refine zR ?_
   try simp only [go_sem, simprocAttr]
   all_goals ((try clear hR1); rw [insT, if_pos hok]; rfl)
end
end Go.Proofs.YtgpjgljgplngpaaGreatDoor.AM
