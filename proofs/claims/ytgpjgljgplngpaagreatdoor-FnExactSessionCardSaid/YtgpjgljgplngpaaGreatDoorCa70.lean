/- Keys as texts. No conditions but those each theorem bears. -/
import Derived.Test.YtgpjgljgplngpaaGreatDoorFa
import Derived.Test.YtgpjgljgplngpaaGreatDoorX1
import Derived.Test.YtgpjgljgplngpaaGreatDoorXL
import Derived.Test.YtgpjgljgplngpaaGreatDoorCb2
import Derived.Test.YtgpjgljgplngpaaGreatDoorCb1
set_option linter.unusedSimpArgs false
set_option linter.unusedVariables false
namespace Go.Proofs.YtgpjgljgplngpaaGreatDoor.AM
open Go
set_option maxHeartbeats 8000000
set_option maxRecDepth 100000
section
attribute [local go_sem] mk_bt bt_app bt_fits bytes_one
theorem sat_spec_l7Digits (a : Int) (ha : -9223372036854775808 ≤ a ∧ a ≤ 9223372036854775807) : Sat Tryz.prog 49 [.int .i64 a] [] (.str (bt (itoa a))) [] := by
 have hX := trivial
 refine sat_mk [.tmp 2] 0 31 Tryz.call49 Tryz.func49 Tryz.ntmps49 rfl rfl rfl rfl rfl ?_
 refine zI [0] ?_
 refine zS [0] ?_
 refine zS [0, 7] ?_
 refine zC ?_ ?_
 ·intro c1
  refine zS [2] ?_
  refine zR ?_
  try simp only [go_sem, simprocAttr]
  all_goals (simp [c1, itoa_zero, bt])
 ·intro c1 ρ hL
  refine awl_skip ?_
  revert ρ hL
  refine zS [0, 3] ?_
  refine zS [0, 3, 4] ?_
  intro ρ hL
  refine awl_seq ?_
  have e1 := hL
  refine awl_loopH (fun H0 n σ G => ∃ (m : Int) (o : Bs), n = m.natAbs ∧ (decP m.natAbs ++ o = decP a.natAbs) ∧ (-9223372036854775808 ≤ m ∧ m ≤ 9223372036854775807) ∧ (liveE [3] σ ρ ∧ σ 0 = .int .i64 m ∧ σ 4 = .str (bt o)) ∧ G = H0) (fun H0 σ G => (liveE [3] σ ρ ∧ σ 4 = .str (bt (decP a.natAbs))) ∧ G = H0) ((fun (m : Int) (o : Bs) => m.natAbs) a  []) ?init1 (fun n ρ G hI => ?round1) (fun ρ G hJ => ?after1)
  case init1 => exact ⟨a, [], rfl, (List.append_nil _), (ha), ⟨liveE_refl _ _, (hL.1), (hL.2.2)⟩, rfl⟩
  case round1 =>
   clear hL
   obtain ⟨m, o, hn, i1_0, i1_1, hL, hG⟩ := hI
   subst hG
   try simp only [go_sem, simprocAttr, e1, hX] at hL
   revert ρ hL
   refine zS [0, 3, 4, 11] ?_
   refine zC ?_ ?_
   ·intro c2 ρ hL
    refine awl_skip (awl_block fun R1 hw1 hR1 => ?_)
    have hq := dig_facts i1_1
    have hlo := dig_fits c2 i1_0 ha
    have hm := digI_range m
    revert ρ hL
    refine zS [0, 3, 4, 5] ?_
    refine zS [0, 3, 4, 5, 15] ?_
    intro ρ hL
    have j2 := hL
    refine awl_joinH (fun H0 σ G => (liveE [0, 3, 4] σ ρ ∧ σ 5 = .int .i64 (digI m)) ∧ G = H0) ?inner2 (fun ρ G hJ => ?after2)
    case inner2 =>
     refine zN [0, 3, 4, 5, 15] ?_
     clear hL
     refine zC ?_ ?_
     ·intro c3
      refine zS [0, 3, 4, 5] ?_
      intro ρ hL
      refine awl_nil ?_
      show wkQ _ _ _ _
      refine .mk ⟨⟨(by simp only [go_sem, simprocAttr, hL, hX, j2]), (by rw [hL.2.2.2]; congr 1; unfold digI; split <;> omega)⟩, rfl⟩
     ·intro c3 ρ hL
      refine awl_skip (awl_nil ?_)
      show wkQ _ _ _ _
      refine .mk ⟨⟨(by simp only [go_sem, simprocAttr, hL, hX, j2]), (by rw [hL.2.2.2.1]; congr 1; unfold digI; split <;> omega)⟩, rfl⟩
    case after2 =>
     clear hL
     obtain ⟨hL, hG⟩ := hJ
     subst hG
     try simp only [go_sem, simprocAttr, j2, hX] at hL
     repeat refine awl_seq ?_
     refine awl_regS _ rfl fun K hK => ?_
     try simp only [go_sem, simprocAttr, hL, hX, hq.1, hq.2.1, hlo]
     repeat' refine And.intro (by first | rfl | omega | (simp; done)) ?_
     refine hK _ _ (.mk (awl_live' [0, 3, 4] fun ρ hM => ?_))
     try simp only [go_sem, simprocAttr, hL, hX, hq.1, hq.2.1, hlo] at hM
     clear hK K hL
     revert ρ hM
     intro ρ hL
     repeat refine awl_seq ?_
     refine awl_regS _ rfl fun K hK => ?_
     try simp only [go_sem, simprocAttr, hL, hX, hq.2.2]
     repeat' refine And.intro (by first | rfl | omega | (simp; done)) ?_
     refine hK _ _ (.mk (awl_live' [0, 3, 4] fun ρ hM => ?_))
     try simp only [go_sem, simprocAttr, hL, hX, hq.2.2] at hM
     clear hK K hL
     revert ρ hM
     intro ρ hL
     refine awl_nil (blk_normal (hR1 _ _ (.mk ?_)))
     refine awl_nil ?_
     refine loop_againW (Wk.keep [] rfl) _ ?meas ⟨(m.tdiv 10), ([UInt8.ofNat (48 + digI m).toNat] ++ o), rfl, (by exact dig_step c2 i1_0), (by have := tdiv_abs m; omega), ⟨(by simp only [go_sem, simprocAttr, hL, hX, e1]), (by simp only [go_sem, simprocAttr, hL, hX, e1]; first | done | rfl), (by simp only [go_sem, simprocAttr, hL, hX, e1]; first | done | rfl)⟩, (by simp only [go_sem, simprocAttr, hL, hX, e1]; first | done | rfl)⟩
     case meas => subst hn; have := tdiv_abs m; omega
   ·intro c2 ρ hL
    refine awl_exit (loop_break ?_)
    exact ⟨⟨(by simp only [go_sem, simprocAttr, hL, hX, e1]), (by rw [hL.2.2.1]; congr 2; exact dig_end c2 i1_0)⟩, rfl⟩
  case after1 =>
   clear hL
   obtain ⟨hL, hG⟩ := hJ
   subst hG
   try simp only [go_sem, simprocAttr, e1, hX] at hL
   revert ρ hL
   refine zS [4, 27] ?_
   refine zC ?_ ?_
   ·intro c4
    have hl2 : lenOk [45] (decP a.natAbs) = true := lenOk_of (by have := decP_len ha; simp only [List.length_cons, List.length_nil]; omega)
    refine zSX [2] (And.intro hl2 hX) ?_
    refine zR ?_
    try simp only [go_sem, simprocAttr]
    all_goals ((try clear hR1); rw [itoa_neg (by omega) rfl]; try rfl)
   ·intro c4 ρ hL
    refine awl_skip ?_
    revert ρ hL
    refine zS [2] ?_
    refine zR ?_
    try simp only [go_sem, simprocAttr]
    all_goals ((try clear hR1); rw [itoa_pos (by omega) rfl])
end
section
attribute [local go_sem] mk_bt
theorem sat_spec_l19Letters   : Sat Tryz.prog 214 [] [] (.slice 0 0 6 6) [⟨1, [.str (bt [108]), .str (bt [115]), .str (bt [114]), .str (bt [116]), .str (bt [112]), .str (bt [107])], true, false⟩] := by
 have hX := trivial
 refine sat_mk [.tmp 0] 0 2 Tryz.call214 Tryz.func214 Tryz.ntmps214 rfl rfl rfl rfl rfl ?_
 refine awl_live' [] fun ρ hL => ?_
 clear hL
 have hL := trivial
 refine zA ?_
 intro K hK
 refine hK _ _ (.mk (awl_live' [] fun ρ hM => ?_))
 clear hK K hL hM
 have hM := trivial
 revert ρ hM
 intro ρ hL
 refine zA ?_
 intro K hK
 refine zE [0] ?_
 clear hK K hL
 refine zK [0] [0] ?_ ?_
 all_goals try simp only [go_sem, simprocAttr, hX]
 all_goals (first | done | rfl | (simp; done) | (simp [inR]; done) | (simp_all [inR]; done) | (simp [inR]; grind))
end
section
attribute [local go_sem] mk_bt bt_app bt_fits
theorem sat_spec_KeyText (k : Key)  : Sat Tryz.prog 170 [.agg k.cells] [] (.str (bt (keyT k))) [] := by
 have hX := trivial
 refine sat_mk [.tmp 2] 0 44 Tryz.call170 Tryz.func170 Tryz.ntmps170 rfl rfl rfl rfl rfl ?_
 refine zI [0] ?_
 refine zS [1] ?_
 refine zSF [1, 7] (sat_spec_KeyOk _) ?_
 refine zC ?_ ?_
 ·intro c1
  refine zS [2] ?_
  refine zR ?_
  try simp only [go_sem, simprocAttr]
  all_goals (simp [keyT, c1, bt])
 ·intro c1 ρ hL
  refine awl_skip ?_
  have hok : keyOk k = true := by simpa using c1
  have hkp := key_parts hok
  have lb := itoa_len (n := k.base) (by omega)
  have lt := itoa_len (n := k.top) (by omega)
  have ll := itoa_len (n := k.lock) (by omega)
  have f1 : lenOk [91] (itoa k.base) = true := lenOk_of (by simp only [List.length_cons, List.length_nil, List.length_append]; omega)
  have f2 : lenOk (91 :: itoa k.base) [44] = true := lenOk_of (by simp only [List.length_cons, List.length_nil, List.length_append]; omega)
  have f3 : lenOk (91 :: (itoa k.base ++ [44])) (itoa k.top) = true := lenOk_of (by simp only [List.length_cons, List.length_nil, List.length_append]; omega)
  have f4 : lenOk (91 :: (itoa k.base ++ 44 :: itoa k.top)) [41] = true := lenOk_of (by simp only [List.length_cons, List.length_nil, List.length_append]; omega)
  repeat refine awl_seq ?_
  refine awl_regD mixed _ rfl fun K hK => ?_
  try simp only [go_sem, simprocAttr, hL, hX, f1, f2, f3, f4]
  repeat' refine And.intro (by first | omega | (exact ⟨[0, 1, 3, 7, 15, 0, 32, 103, 255, 511, 1023], by kernel_rfl⟩) | kernel_rfl) ?_
  refine dS_call_ro rfl (sat_spec_l7Digits k.base (by omega)) ?ha ?hv ?hh ?_
  case ha => simp only [go_sem, simprocAttr, hL, hX, f1, f2, f3, f4]; first | done | rfl
  case hv => first | rfl | (simp only [go_sem]; done)
  case hh => first | rfl | (simp only [go_sem]; done)
  try simp only [go_sem, simprocAttr, hL, hX, f1, f2, f3, f4]
  repeat' refine And.intro (by first | omega | (exact ⟨[0, 1, 3, 7, 15, 0, 32, 103, 255, 511, 1023], by kernel_rfl⟩) | kernel_rfl) ?_
  refine dS_call_ro rfl (sat_spec_l7Digits k.top (by omega)) ?ha ?hv ?hh ?_
  case ha => simp only [go_sem, simprocAttr, hL, hX, f1, f2, f3, f4]; first | done | rfl
  case hv => first | rfl | (simp only [go_sem]; done)
  case hh => first | rfl | (simp only [go_sem]; done)
  try simp only [go_sem, simprocAttr, hL, hX, f1, f2, f3, f4]
  repeat' refine And.intro (by first | omega | (exact ⟨[0, 1, 3, 7, 15, 0, 32, 103, 255, 511, 1023], by kernel_rfl⟩) | kernel_rfl) ?_
  refine hK _ _ (.mk (awl_live' [1, 3] fun ρ hM => ?_))
  try simp only [go_sem, simprocAttr, hL, hX, f1, f2, f3, f4] at hM
  clear hK K hL
  revert ρ hM
  refine zS [1, 3, 4] ?_
  intro ρ hL
  have e1 := hL
  refine awl_loopH (fun H0 n σ G => ∃ (i : Nat), n = 6 - i ∧ (i ≤ 6) ∧ (liveE [1] σ ρ ∧ σ 3 = .str (bt (91 :: (itoa k.base ++ 44 :: (itoa k.top ++ 41 :: permT k.perms i)))) ∧ σ 4 = .int .i64 (i : Int)) ∧ G = H0) (fun H0 σ G => (liveE [1] σ ρ ∧ σ 3 = .str (bt (91 :: (itoa k.base ++ 44 :: (itoa k.top ++ 41 :: permT k.perms 6))))) ∧ G = H0) ((fun (i : Nat) => 6 - i) 0) ?init1 (fun n ρ G hI => ?round1) (fun ρ G hJ => ?after1)
  case init1 => exact ⟨0, rfl, (Nat.zero_le _), ⟨liveE_refl _ _, (by rw [hL.2.1]; rfl), (hL.2.2)⟩, rfl⟩
  case round1 =>
   clear hL
   obtain ⟨i, hn, i1_0, hL, hG⟩ := hI
   subst hG
   try simp only [go_sem, simprocAttr, e1, hX] at hL
   revert ρ hL
   refine zS [1, 3, 4, 19] ?_
   refine zC ?_ ?_
   ·intro c2
    have hi1 : i < 6 := by omega
    replace hX := And.intro hi1 hX
    intro ρ hL
    refine awl_skip (awl_seq (awl_block fun R1 hw1 hR1 => ?_))
    have hm : min i 64 = i := by omega
    revert ρ hL
    refine zSX [1, 3, 4, 27] (And.intro hm hX) ?_
    refine zC ?_ ?_
    ·intro c3
     have hb : bitop .and .i64 (k.perms.fdiv (2 ^ i)) 1 = 1 := (band_one (k.perms.fdiv (2 ^ i))).resolve_left (show ¬ bitop .and .i64 (k.perms.fdiv (2 ^ i)) 1 = 0 by simpa using c3)
     have f5 : lenOk (91 :: (itoa k.base ++ 44 :: (itoa k.top ++ 41 :: permT k.perms i))) [lets.getD i 0] = true := lenOk_of (by have := permT_len (p := k.perms) i; simp only [List.length_cons, List.length_nil, List.length_append]; omega)
     have f6 := lets_row hi1
     intro ρ hL
     repeat refine awl_seq ?_
     refine awl_regS _ rfl fun K hK => ?_
     try simp only [go_sem, simprocAttr, hL, hX, f5, f6]
     repeat' refine And.intro (by first | rfl | omega | (simp; done)) ?_
     refine opS_call_ro rfl (sat_spec_l19Letters) ?ha ?hv ?hh ?_
     case ha => simp only [go_sem, simprocAttr, hL, hX, f5, f6]; first | done | rfl
     case hv => first | rfl | (simp only [go_sem]; done)
     case hh => first | rfl | (simp only [go_sem]; done)
     try simp only [go_sem, simprocAttr, hL, hX, f5, f6]
     repeat' refine And.intro (by first | rfl | omega | (simp; done)) ?_
     refine hK _ _ (.mk (awl_live' [1, 3, 4] fun ρ hM => ?_))
     try simp only [go_sem, simprocAttr, hL, hX, f5, f6] at hM
     clear hK K hL
     revert ρ hM
     intro ρ hL
     refine awl_nil (blk_normal (hR1 _ _ (.mk ?_)))
     have w1 : IntKind.i64.wrap ((i : Int) + 1) = ((i + 1 : Nat) : Int) := by rw [wrap64 (by omega)]; omega
     replace hX := And.intro w1 hX
     revert ρ hL
     refine zS [1, 3, 4] ?_
     intro ρ hL
     refine awl_nil ?_
     refine loop_againW (Wk.keep [0] rfl) _ ?meas ⟨i + 1, rfl, (by omega), ⟨(by simp only [go_sem, simprocAttr, hL, hX, e1]), by simp only [go_sem, simprocAttr, hL, hX, e1]; rw [permT_on hb], (by simp only [go_sem, simprocAttr, hL, hX, e1]; first | done | rfl)⟩, (by simp only [go_sem, simprocAttr, hL, hX, e1]; first | done | rfl)⟩
     case meas => subst hn; omega
    ·intro c3 ρ hL
     refine awl_skip (awl_nil (blk_normal (hR1 _ _ (.mk ?_))))
     have w1 : IntKind.i64.wrap ((i : Int) + 1) = ((i + 1 : Nat) : Int) := by rw [wrap64 (by omega)]; omega
     replace hX := And.intro w1 hX
     revert ρ hL
     refine zS [1, 3, 4] ?_
     intro ρ hL
     refine awl_nil ?_
     refine loop_againW (Wk.keep [0] rfl) _ ?meas ⟨i + 1, rfl, (by omega), ⟨(by simp only [go_sem, simprocAttr, hL, hX, e1]), by simp only [go_sem, simprocAttr, hL, hX, e1]; rw [permT_off (by simpa using c3)], (by simp only [go_sem, simprocAttr, hL, hX, e1]; first | done | rfl)⟩, (by simp only [go_sem, simprocAttr, hL, hX, e1]; first | done | rfl)⟩
     case meas => subst hn; omega
   ·intro c2 ρ hL
    refine awl_exit (loop_break ?_)
    exact ⟨⟨(by simp only [go_sem, simprocAttr, hL, hX, e1]), (by rw [hL.2.1, show i = 6 by omega])⟩, rfl⟩
  case after1 =>
   clear hL
   obtain ⟨hL, hG⟩ := hJ
   subst hG
   try simp only [go_sem, simprocAttr, e1, hX] at hL
   revert ρ hL
   refine zS [1, 3, 36] ?_
   refine zC ?_ ?_
   ·intro c4
    have f7 : lenOk (91 :: (itoa k.base ++ 44 :: (itoa k.top ++ 41 :: permT k.perms 6))) [35] = true := lenOk_of (by have := permT_len (p := k.perms) 6; simp only [List.length_cons, List.length_nil, List.length_append]; omega)
    have f8 : lenOk (91 :: (itoa k.base ++ 44 :: (itoa k.top ++ 41 :: (permT k.perms 6 ++ [35])))) (itoa k.lock) = true := lenOk_of (by have := permT_len (p := k.perms) 6; simp only [List.length_cons, List.length_nil, List.length_append]; omega)
    intro ρ hL
    repeat refine awl_seq ?_
    refine awl_regS _ rfl fun K hK => ?_
    try simp only [go_sem, simprocAttr, hL, hX, f7, f8]
    repeat' refine And.intro (by first | rfl | omega | (simp; done)) ?_
    refine opS_call_ro rfl (sat_spec_l7Digits k.lock (by omega)) ?ha ?hv ?hh ?_
    case ha => simp only [go_sem, simprocAttr, hL, hX, f7, f8]; first | done | rfl
    case hv => first | rfl | (simp only [go_sem]; done)
    case hh => first | rfl | (simp only [go_sem]; done)
    try simp only [go_sem, simprocAttr, hL, hX, f7, f8]
    repeat' refine And.intro (by first | rfl | omega | (simp; done)) ?_
    refine hK _ _ (.mk (awl_live' [2] fun ρ hM => ?_))
    try simp only [go_sem, simprocAttr, hL, hX, f7, f8] at hM
    clear hK K hL
    revert ρ hM
    refine zR ?_
    try simp only [go_sem, simprocAttr]
    all_goals ((try clear hR1); rw [keyT, if_pos hok, keyB, lockT, if_neg (by simpa using c4)])
   ·intro c4 ρ hL
    refine awl_skip ?_
    revert ρ hL
    refine zS [2] ?_
    refine zR ?_
    try simp only [go_sem, simprocAttr]
    all_goals ((try clear hR1); rw [keyT, if_pos hok, keyB, lockT, if_pos (by simpa using c4), List.append_nil])
end
section
attribute [local go_sem] mk_bt bt_app bt_fits
theorem sat_impl_KeyText (k : Key)  : Sat Tryz.prog 212 [.agg k.cells] [] (.str (bt (keyT k))) [] := by
 have hX := trivial
 refine sat_mk [.tmp 2] 0 44 Tryz.call212 Tryz.func212 Tryz.ntmps212 rfl rfl rfl rfl rfl ?_
 refine zI [0] ?_
 refine zS [1] ?_
 refine zSF [1, 7] (sat_impl_KeyOk _) ?_
 refine zC ?_ ?_
 ·intro c1
  refine zS [2] ?_
  refine zR ?_
  try simp only [go_sem, simprocAttr]
  all_goals (simp [keyT, c1, bt])
 ·intro c1 ρ hL
  refine awl_skip ?_
  have hok : keyOk k = true := by simpa using c1
  have hkp := key_parts hok
  have lb := itoa_len (n := k.base) (by omega)
  have lt := itoa_len (n := k.top) (by omega)
  have ll := itoa_len (n := k.lock) (by omega)
  have f1 : lenOk [91] (itoa k.base) = true := lenOk_of (by simp only [List.length_cons, List.length_nil, List.length_append]; omega)
  have f2 : lenOk (91 :: itoa k.base) [44] = true := lenOk_of (by simp only [List.length_cons, List.length_nil, List.length_append]; omega)
  have f3 : lenOk (91 :: (itoa k.base ++ [44])) (itoa k.top) = true := lenOk_of (by simp only [List.length_cons, List.length_nil, List.length_append]; omega)
  have f4 : lenOk (91 :: (itoa k.base ++ 44 :: itoa k.top)) [41] = true := lenOk_of (by simp only [List.length_cons, List.length_nil, List.length_append]; omega)
  repeat refine awl_seq ?_
  refine awl_regD mixed _ rfl fun K hK => ?_
  try simp only [go_sem, simprocAttr, hL, hX, f1, f2, f3, f4]
  repeat' refine And.intro (by first | omega | (exact ⟨[0, 1, 3, 7, 15, 0, 32, 103, 255, 511, 1023], by kernel_rfl⟩) | kernel_rfl) ?_
  refine dS_call_ro rfl (sat_strconv_Itoa k.base (by omega)) ?ha ?hv ?hh ?_
  case ha => simp only [go_sem, simprocAttr, hL, hX, f1, f2, f3, f4]; first | done | rfl
  case hv => first | rfl | (simp only [go_sem]; done)
  case hh => first | rfl | (simp only [go_sem]; done)
  try simp only [go_sem, simprocAttr, hL, hX, f1, f2, f3, f4]
  repeat' refine And.intro (by first | omega | (exact ⟨[0, 1, 3, 7, 15, 0, 32, 103, 255, 511, 1023], by kernel_rfl⟩) | kernel_rfl) ?_
  refine dS_call_ro rfl (sat_strconv_Itoa k.top (by omega)) ?ha ?hv ?hh ?_
  case ha => simp only [go_sem, simprocAttr, hL, hX, f1, f2, f3, f4]; first | done | rfl
  case hv => first | rfl | (simp only [go_sem]; done)
  case hh => first | rfl | (simp only [go_sem]; done)
  try simp only [go_sem, simprocAttr, hL, hX, f1, f2, f3, f4]
  repeat' refine And.intro (by first | omega | (exact ⟨[0, 1, 3, 7, 15, 0, 32, 103, 255, 511, 1023], by kernel_rfl⟩) | kernel_rfl) ?_
  refine hK _ _ (.mk (awl_live' [1, 3] fun ρ hM => ?_))
  try simp only [go_sem, simprocAttr, hL, hX, f1, f2, f3, f4] at hM
  clear hK K hL
  revert ρ hM
  refine zS [1, 3, 18] ?_
  intro ρ hL
  have e1 := hL
  refine awl_loopH (fun H0 n σ G => ∃ (i : Nat), n = 6 - i ∧ (i ≤ 6) ∧ (liveE [1] σ ρ ∧ σ 3 = .str (bt (91 :: (itoa k.base ++ 44 :: (itoa k.top ++ 41 :: permT k.perms i)))) ∧ σ 18 = .int .i64 (i : Int)) ∧ G = H0) (fun H0 σ G => (liveE [1] σ ρ ∧ σ 3 = .str (bt (91 :: (itoa k.base ++ 44 :: (itoa k.top ++ 41 :: permT k.perms 6))))) ∧ G = H0) ((fun (i : Nat) => 6 - i) 0) ?init1 (fun n ρ G hI => ?round1) (fun ρ G hJ => ?after1)
  case init1 => exact ⟨0, rfl, (Nat.zero_le _), ⟨liveE_refl _ _, (by rw [hL.2.1]; rfl), (hL.2.2)⟩, rfl⟩
  case round1 =>
   clear hL
   obtain ⟨i, hn, i1_0, hL, hG⟩ := hI
   subst hG
   try simp only [go_sem, simprocAttr, e1, hX] at hL
   revert ρ hL
   refine zS [1, 3, 18, 19] ?_
   refine zC ?_ ?_
   ·intro c2
    have hi1 : i < 6 := by omega
    replace hX := And.intro hi1 hX
    intro ρ hL
    refine awl_skip (awl_seq (awl_block fun R1 hw1 hR1 => ?_))
    revert ρ hL
    refine zS [1, 3, 4, 18] ?_
    have hm : min i 64 = i := by omega
    refine zSX [1, 3, 4, 18, 26] (And.intro hm hX) ?_
    refine zC ?_ ?_
    ·intro c3
     have hb : bitop .and .i64 (k.perms.fdiv (2 ^ i)) 1 = 1 := by simpa using c3
     have f5 : lenOk (91 :: (itoa k.base ++ 44 :: (itoa k.top ++ 41 :: permT k.perms i))) [lets.getD i 0] = true := lenOk_of (by have := permT_len (p := k.perms) i; simp only [List.length_cons, List.length_nil, List.length_append]; omega)
     have w8 : IntKind.i64.wrap ((i : Int) + 1) = ((i + 1 : Nat) : Int) := by rw [wrap64 (by omega)]; omega
     have hz : (bt [108, 115, 114, 116, 112, 107]).size = 6 := rfl
     have s1 : (0 : Int) ≤ ((i + 1 : Nat) : Int) := by omega
     have s2 : ((i + 1 : Nat) : Int) ≤ 6 := by omega
     have s3 : (0 : Int) ≤ (i : Int) := by omega
     have s4 : (i : Int) ≤ ((i + 1 : Nat) : Int) := by omega
     have f6 := lets_cut hi1
     intro ρ hL
     repeat refine awl_seq ?_
     refine awl_regS _ rfl fun K hK => ?_
     try simp only [go_sem, simprocAttr, hL, hX, f5, f6, w8, hz, s1, s2, s3, s4]
     repeat' refine And.intro (by first | rfl | omega | (simp; done)) ?_
     refine hK _ _ (.mk (awl_live' [1, 3, 18] fun ρ hM => ?_))
     try simp only [go_sem, simprocAttr, hL, hX, f5, f6, w8, hz, s1, s2, s3, s4] at hM
     clear hK K hL
     revert ρ hM
     intro ρ hL
     refine awl_nil (blk_normal (hR1 _ _ (.mk ?_)))
     have w1 : IntKind.i64.wrap ((i : Int) + 1) = ((i + 1 : Nat) : Int) := by rw [wrap64 (by omega)]; omega
     replace hX := And.intro w1 hX
     revert ρ hL
     refine zS [1, 3, 18] ?_
     intro ρ hL
     refine awl_nil ?_
     refine loop_againW (Wk.keep [0] rfl) _ ?meas ⟨i + 1, rfl, (by omega), ⟨(by simp only [go_sem, simprocAttr, hL, hX, e1]), by simp only [go_sem, simprocAttr, hL, hX, e1]; rw [permT_on hb], (by simp only [go_sem, simprocAttr, hL, hX, e1]; first | done | rfl)⟩, (by simp only [go_sem, simprocAttr, hL, hX, e1]; first | done | rfl)⟩
     case meas => subst hn; omega
    ·intro c3 ρ hL
     refine awl_skip (awl_nil (blk_normal (hR1 _ _ (.mk ?_))))
     have w1 : IntKind.i64.wrap ((i : Int) + 1) = ((i + 1 : Nat) : Int) := by rw [wrap64 (by omega)]; omega
     replace hX := And.intro w1 hX
     revert ρ hL
     refine zS [1, 3, 18] ?_
     intro ρ hL
     refine awl_nil ?_
     refine loop_againW (Wk.keep [0] rfl) _ ?meas ⟨i + 1, rfl, (by omega), ⟨(by simp only [go_sem, simprocAttr, hL, hX, e1]), by simp only [go_sem, simprocAttr, hL, hX, e1]; rw [permT_off ((band_one (k.perms.fdiv (2 ^ i))).resolve_right (show ¬ bitop .and .i64 (k.perms.fdiv (2 ^ i)) 1 = 1 by simpa using c3))], (by simp only [go_sem, simprocAttr, hL, hX, e1]; first | done | rfl)⟩, (by simp only [go_sem, simprocAttr, hL, hX, e1]; first | done | rfl)⟩
     case meas => subst hn; omega
   ·intro c2 ρ hL
    refine awl_exit (loop_break ?_)
    exact ⟨⟨(by simp only [go_sem, simprocAttr, hL, hX, e1]), (by rw [hL.2.1, show i = 6 by omega])⟩, rfl⟩
  case after1 =>
   clear hL
   obtain ⟨hL, hG⟩ := hJ
   subst hG
   try simp only [go_sem, simprocAttr, e1, hX] at hL
   revert ρ hL
   refine zS [1, 3, 36] ?_
   intro ρ hL
   have j2 := hL
   refine awl_joinH (fun H0 σ G => (σ 3 = .str (bt (keyB k))) ∧ G = H0) ?inner2 (fun ρ G hJ => ?after2)
   case inner2 =>
    refine zN [1, 3, 36] ?_
    clear hL
    refine zC ?_ ?_
    ·intro c4
     have f7 : lenOk [35] (itoa k.lock) = true := lenOk_of (by simp only [List.length_cons, List.length_nil, List.length_append]; omega)
     have f8 : lenOk (91 :: (itoa k.base ++ 44 :: (itoa k.top ++ 41 :: permT k.perms 6))) (35 :: itoa k.lock) = true := lenOk_of (by have := permT_len (p := k.perms) 6; simp only [List.length_cons, List.length_nil, List.length_append]; omega)
     intro ρ hL
     repeat refine awl_seq ?_
     refine awl_regS _ rfl fun K hK => ?_
     try simp only [go_sem, simprocAttr, hL, hX, f7, f8]
     repeat' refine And.intro (by first | rfl | omega | (simp; done)) ?_
     refine opS_call_ro rfl (sat_strconv_Itoa k.lock (by omega)) ?ha ?hv ?hh ?_
     case ha => simp only [go_sem, simprocAttr, hL, hX, f7, f8]; first | done | rfl
     case hv => first | rfl | (simp only [go_sem]; done)
     case hh => first | rfl | (simp only [go_sem]; done)
     try simp only [go_sem, simprocAttr, hL, hX, f7, f8]
     repeat' refine And.intro (by first | rfl | omega | (simp; done)) ?_
     refine hK _ _ (.mk (awl_live' [3] fun ρ hM => ?_))
     try simp only [go_sem, simprocAttr, hL, hX, f7, f8] at hM
     clear hK K hL
     revert ρ hM
     intro ρ hL
     refine awl_nil ?_
     show wkQ _ _ _ _
     refine .mk ⟨(by rw [hL]; first | (rw [keyB, lockT, if_neg (by simpa using c4)]; done) | (rw [keyB, lockT, if_pos (by simpa using c4), List.append_nil]; done)), rfl⟩
    ·intro c4 ρ hL
     refine awl_skip (awl_nil ?_)
     show wkQ _ _ _ _
     refine .mk ⟨(by rw [hL.2.1]; first | (rw [keyB, lockT, if_neg (by simpa using c4)]; done) | (rw [keyB, lockT, if_pos (by simpa using c4), List.append_nil]; done)), rfl⟩
   case after2 =>
    clear hL
    obtain ⟨hL, hG⟩ := hJ
    subst hG
    revert ρ hL
    refine zS [2] ?_
    refine zR ?_
    try simp only [go_sem, simprocAttr]
    all_goals ((try clear hR1); rw [keyT, if_pos hok])
end
end Go.Proofs.YtgpjgljgplngpaaGreatDoor.AM
