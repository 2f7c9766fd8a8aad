/- Keys read, the other way. No conditions but those each theorem bears. -/
import Derived.Test.YtgpjgljgplngpaaDoorFa
import Derived.Test.YtgpjgljgplngpaaDoorCa72
set_option linter.unusedSimpArgs false
set_option linter.unusedVariables false
namespace Go.Proofs.YtgpjgljgplngpaaDoor.AM
open Go
set_option maxHeartbeats 8000000
set_option maxRecDepth 100000

section
attribute [local go_sem] mk_bt bt_app bt_fits
theorem sat_impl_KeyRead (l : Bs) (hl : l.length ≤ 1048576) : Sat Tryd.prog 14 [.str (bt l)] [] (.tuple [.agg (keyRead l).1.cells, .bool (keyRead l).2]) [] := by
 have hX := trivial
 refine sat_mk [.cell 2 25, .tmp 3] 0 107 Tryd.call14 Tryd.func14 Tryd.ntmps14 rfl rfl rfl rfl rfl ?_
 refine zI [0] ?_
 refine zS [0, 2] ?_
 have t0 := trim_len (l := l) (p := [91])
 have t1 := cutB_len (l := Lib.trimPrefix l [91]) (c := 44)
 have t2 := cutB_len (l := (cutB (Lib.trimPrefix l [91]) 44).2.1) (c := 41)
 have t3 := cutB_len (l := (cutB (cutB (Lib.trimPrefix l [91]) 44).2.1 41).2.1) (c := 35)
 have t4 : (kiOf l).d.length ≤ 1048577 := by show (if (cutB (cutB (cutB (Lib.trimPrefix l [91]) 44).2.1 41).2.1 35).2.2 = true then (cutB (cutB (cutB (Lib.trimPrefix l [91]) 44).2.1 41).2.1 35).2.1 else [48]).length ≤ 1048577; split; exact (by omega); exact (by decide)
 intro ρ hL
 refine zA ?_
 intro K hK
 refine zF (sat_strings_TrimPrefix l [91]) ?_
 refine zF (sat_strings_Cut (Lib.trimPrefix l [91]) 44 (by omega)) ?_
 refine zE [0, 2, 4, 5, 6] ?_
 clear hK K hL
 refine zSF [0, 2, 4, 5, 6, 7, 8] (sat_strings_Cut (cutB (Lib.trimPrefix l [91]) 44).2.1 41 (by omega)) ?_
 refine zSF [0, 2, 4, 6, 7, 8, 9, 10, 11] (sat_strings_Cut (cutB (cutB (Lib.trimPrefix l [91]) 44).2.1 41).2.1 35 (by omega)) ?_
 refine zS [0, 2, 4, 6, 7, 8, 9, 10, 40] ?_
 intro ρ hL
 have j1 := hL
 refine awl_joinH (fun H0 σ G => (liveE [0, 2, 4, 6, 7, 8, 9] σ ρ ∧ σ 10 = .str (bt (kiOf l).d)) ∧ G = H0) ?inner1 (fun ρ G hJ => ?after1)
 case inner1 =>
  refine zN [0, 2, 4, 6, 7, 8, 9, 10, 40] ?_
  clear hL
  refine zC ?_ ?_
  · intro c1
    refine zS [0, 2, 4, 6, 7, 8, 9, 10] ?_
    intro ρ hL
    refine awl_nil ?_
    show wkQ _ _ _ _
    refine .mk ⟨⟨(by simp only [go_sem, simprocAttr, hL, hX, j1]), (by rw [hL.2.2.2.2.2.2.2]; first | (rw [show (kiOf l).d = [48] from if_neg (by simpa using c1)]; done) | (rw [show (kiOf l).d = (cutB (cutB (cutB (Lib.trimPrefix l [91]) 44).2.1 41).2.1 35).2.1 from if_pos (by simpa using c1)]; done))⟩, rfl⟩
  · intro c1
    intro ρ hL
    refine awl_skip ?_
    refine awl_nil ?_
    show wkQ _ _ _ _
    refine .mk ⟨⟨(by simp only [go_sem, simprocAttr, hL, hX, j1]), (by rw [hL.2.2.2.2.2.2.2.1]; first | (rw [show (kiOf l).d = [48] from if_neg (by simpa using c1)]; done) | (rw [show (kiOf l).d = (cutB (cutB (cutB (Lib.trimPrefix l [91]) 44).2.1 41).2.1 35).2.1 from if_pos (by simpa using c1)]; done))⟩, rfl⟩
 case after1 =>
  clear hL
  obtain ⟨hL, hG⟩ := hJ
  subst hG
  try simp only [go_sem, simprocAttr, j1, hX] at hL
  revert ρ hL
  refine zSF [0, 2, 6, 7, 8, 9, 10, 12, 13] (sat_strconv_Atoi (cutB (Lib.trimPrefix l [91]) 44).1 (by omega)) ?_
  refine zSF [0, 2, 6, 8, 9, 10, 12, 13, 14, 15] (sat_strconv_Atoi (cutB (cutB (Lib.trimPrefix l [91]) 44).2.1 41).1 (by omega)) ?_
  refine zSF [0, 2, 6, 8, 9, 12, 13, 14, 15, 16, 17] (sat_strconv_Atoi (kiOf l).d (by omega)) ?_
  refine zS [0, 2, 6, 8, 9, 13, 15, 17, 18] ?_
  refine zS [0, 2, 6, 8, 9, 13, 15, 17, 18, 60] ?_
  intro ρ hL
  have e2 := hL
  refine awl_loopH (fun H0 n σ G => ∃ (i : Nat), n = 6 - i ∧ (i ≤ 6) ∧ (liveE [0, 2, 6, 8, 9, 13, 15, 17, 18] σ ρ ∧ σ 60 = .int .i64 (i : Int)) ∧ G = [⟨4, [.int .i64 0, .int .i64 0, .int .i64 0, .int .i64 0], true, false⟩, ⟨4, [.int .i64 (atoV (cutB (Lib.trimPrefix l [91]) 44).1).1, .int .i64 (atoV (cutB (cutB (Lib.trimPrefix l [91]) 44).2.1 41).1).1, .int .i64 (permI (cutB (cutB (cutB (Lib.trimPrefix l [91]) 44).2.1 41).2.1 35).1 i), .int .i64 (atoV (kiOf l).d).1], true, false⟩]) (fun H0 σ G => (liveE [0, 2, 6, 8, 13, 15, 17, 18] σ ρ) ∧ G = [⟨4, [.int .i64 0, .int .i64 0, .int .i64 0, .int .i64 0], true, false⟩, ⟨4, [.int .i64 (atoV (cutB (Lib.trimPrefix l [91]) 44).1).1, .int .i64 (atoV (cutB (cutB (Lib.trimPrefix l [91]) 44).2.1 41).1).1, .int .i64 (permI (cutB (cutB (cutB (Lib.trimPrefix l [91]) 44).2.1 41).2.1 35).1 6), .int .i64 (atoV (kiOf l).d).1], true, false⟩]) ((fun (i : Nat) => 6 - i) 0) ?init2 (fun n ρ G hI => ?round2) (fun ρ G hJ => ?after2)
  case init2 => exact ⟨0, rfl, (Nat.zero_le _), ⟨liveE_refl _ _, (hL.2.2.2.2.2.2.2.2.2)⟩, rfl⟩
  case round2 =>
   clear hL
   obtain ⟨i, hn, i2_0, hL, hG⟩ := hI
   subst hG
   try simp only [go_sem, simprocAttr, e2, hX] at hL
   revert ρ hL
   refine zS [0, 2, 6, 8, 9, 13, 15, 17, 18, 60, 61] ?_
   refine zC ?_ ?_
   · intro c2
     have hi2 : i < 6 := by omega
     replace hX := And.intro hi2 hX
     intro ρ hL
     refine awl_skip ?_
     refine awl_seq ?_
     refine awl_block fun R1 hw1 hR1 => ?_
     revert ρ hL
     refine zS [0, 2, 6, 8, 9, 13, 15, 17, 18, 19, 60] ?_
     have w8 : IntKind.i64.wrap ((i : Int) + 1) = ((i + 1 : Nat) : Int) := by rw [wrap64 (by omega)]; omega
     have hz : (bt [108, 115, 114, 116, 112, 107]).size = 6 := rfl
     have s1 : (0 : Int) ≤ ((i + 1 : Nat) : Int) := by omega
     have s2 : ((i + 1 : Nat) : Int) ≤ 6 := by omega
     have s3 : (0 : Int) ≤ (i : Int) := by omega
     have s4 : (i : Int) ≤ ((i + 1 : Nat) : Int) := by omega
     have f6 := lets_cut hi2
     intro ρ hL
     repeat refine awl_seq ?_
     refine awl_regS _ rfl fun K hK => ?_
     try simp only [go_sem, simprocAttr, hL, hX, f6, w8, hz, s1, s2, s3, s4]
     repeat' refine And.intro (by first | rfl | omega | (simp; done)) ?_
     refine opS_call_ro rfl (sat_strings_Contains (cutB (cutB (cutB (Lib.trimPrefix l [91]) 44).2.1 41).2.1 35).1 (lets.getD i 0)) ?ha ?hv ?hh ?_
     case ha => simp only [go_sem, simprocAttr, hL, hX, f6, w8, hz, s1, s2, s3, s4]; first | done | rfl
     case hv => first | rfl | (simp only [go_sem]; done)
     case hh => first | rfl | (simp only [go_sem]; done)
     try simp only [go_sem, simprocAttr, hL, hX, f6, w8, hz, s1, s2, s3, s4]
     repeat' refine And.intro (by first | rfl | omega | (simp; done)) ?_
     refine hK _ _ (.mk (awl_live' [0, 2, 6, 8, 9, 13, 15, 17, 18, 19, 60, 68] fun ρ hM => ?_))
     try simp only [go_sem, simprocAttr, hL, hX, f6, w8, hz, s1, s2, s3, s4] at hM
     clear hK K hL
     revert ρ hM
     refine zC ?_ ?_
     · intro c3
       have hm : min i 64 = i := by omega
       have hw := shl_fits hi2
       have hX0 := hX
       replace hX := And.intro hm (And.intro hw hX)
       refine zD [0, 1, 0, 4, 15, 31, 63] [0, 2, 6, 8, 9, 13, 15, 17, 18, 60] ?_
       clear hX
       have hX := hX0
       clear hX0
       intro ρ hL
       refine awl_nil ?_
       refine blk_normal (hR1 _ _ (.mk ?_))
       have w2 : IntKind.i64.wrap ((i : Int) + 1) = ((i + 1 : Nat) : Int) := by rw [wrap64 (by omega)]; omega
       replace hX := And.intro w2 hX
       revert ρ hL
       refine zS [0, 2, 6, 8, 9, 13, 15, 17, 18, 60] ?_
       intro ρ hL
       refine awl_nil ?_
       refine loop_againW (Wk.keep [0, 1] rfl) _ ?meas ⟨i + 1, rfl, (by omega), ⟨(by simp only [go_sem, simprocAttr, hL, hX, e2]), (by simp only [go_sem, simprocAttr, hL, hX, e2]; first | done | rfl)⟩, (by simp only [go_sem, simprocAttr, hL, hX, e2]; rw [permI_yes c3])⟩
       case meas => subst hn; omega
     · intro c3
       intro ρ hL
       refine awl_skip ?_
       refine awl_nil ?_
       refine blk_normal (hR1 _ _ (.mk ?_))
       have w2 : IntKind.i64.wrap ((i : Int) + 1) = ((i + 1 : Nat) : Int) := by rw [wrap64 (by omega)]; omega
       replace hX := And.intro w2 hX
       revert ρ hL
       refine zS [0, 2, 6, 8, 9, 13, 15, 17, 18, 60] ?_
       intro ρ hL
       refine awl_nil ?_
       refine loop_againW (Wk.keep [0, 1] rfl) _ ?meas ⟨i + 1, rfl, (by omega), ⟨(by simp only [go_sem, simprocAttr, hL, hX, e2]), (by simp only [go_sem, simprocAttr, hL, hX, e2]; first | done | rfl)⟩, (by simp only [go_sem, simprocAttr, hL, hX, e2]; rw [permI_no c3])⟩
       case meas => subst hn; omega
   · intro c2
     intro ρ hL
     refine awl_exit ?_
     refine loop_break ?_
     exact ⟨(by simp only [go_sem, simprocAttr, hL, hX, e2]), (by rw [show i = 6 by omega])⟩
  case after2 =>
   clear hL
   obtain ⟨hL, hG⟩ := hJ
   subst hG
   try simp only [go_sem, simprocAttr, e2, hX] at hL
   have q0 := errV_neq (P := Tryd.prog) (t := 56) (b := (atoV (cutB (Lib.trimPrefix l [91]) 44).1).2) tif56
   simp only [go_sem, simprocAttr] at q0
   have g0 := errV_gOk (x := .tmp 83) (c := .nilIface) (b := (atoV (cutB (Lib.trimPrefix l [91]) 44).1).2)
   simp only [go_sem, simprocAttr] at g0
   have q1 := errV_neq (P := Tryd.prog) (t := 56) (b := (atoV (cutB (cutB (Lib.trimPrefix l [91]) 44).2.1 41).1).2) tif56
   simp only [go_sem, simprocAttr] at q1
   have g1 := errV_gOk (x := .tmp 87) (c := .nilIface) (b := (atoV (cutB (cutB (Lib.trimPrefix l [91]) 44).2.1 41).1).2)
   simp only [go_sem, simprocAttr] at g1
   have q2 := errV_neq (P := Tryd.prog) (t := 56) (b := (atoV (kiOf l).d).2) tif56
   simp only [go_sem, simprocAttr] at q2
   have g2 := errV_gOk (x := .tmp 91) (c := .nilIface) (b := (atoV (kiOf l).d).2)
   simp only [go_sem, simprocAttr] at g2
   repeat refine awl_seq ?_
   refine awl_regS _ rfl fun K hK => ?_
   try simp only [go_sem, simprocAttr, hL, hX, q0, q1, q2, g0, g1, g2]
   repeat' refine And.intro (by first | rfl | omega | (simp; done)) ?_
   refine awpS_live [0, 2, 8, 13, 15, 17, 18, 78] fun ρ hM => ?_
   try simp only [go_sem, simprocAttr, hL, hX, q0, q1, q2, g0, g1, g2] at hM
   clear hL
   have hL := hM
   clear hM
   refine grp_orN (tc := 78) (tv := 80) (td := 81) (v := ?v1) 2 rfl [0, 2, 13, 15, 17, 18] hL.2.2.2.2.2.2.2 rfl (fun hb K1 hK1 => ?run) (fun hb => ?skip) (fun ρ hP hM => ?_)
   case skip => exact skA (want := false) (b := _) (by rw [hb]; rfl) hL.2.2.2.2.2.2.2 rfl
   case run =>
    simp only [List.take_succ_cons, List.take_zero]
    rw [hb] at hL
    try simp only [go_sem, simprocAttr, hL, hX, q0, q1, q2, g0, g1, g2]
    repeat' refine And.intro (by first | rfl | omega | (simp; done)) ?_
    refine hK1 _ ?_ ?_ ?_ <;> simp only [go_sem, simprocAttr, hL, hX, q0, q1, q2, g0, g1, g2] <;> exact rfl
   simp only [List.drop_succ_cons, List.drop_zero]
   try simp only [go_sem, simprocAttr, hL, hX, q0, q1, q2, g0, g1, g2] at hM
   replace hL := And.intro hP hM
   clear hP hM
   try simp only [go_sem, simprocAttr, hL, hX, q0, q1, q2, g0, g1, g2]
   repeat' refine And.intro (by first | rfl | omega | (simp; done)) ?_
   refine awpS_live [0, 2, 13, 15, 17, 18, 82] fun ρ hM => ?_
   try simp only [go_sem, simprocAttr, hL, hX, q0, q1, q2, g0, g1, g2] at hM
   clear hL
   have hL := hM
   clear hM
   refine grp_orN (tc := 82) (tv := 84) (td := 85) (v := ?v2) 2 rfl [0, 2, 15, 17, 18] hL.2.2.2.2.2.2 rfl (fun hb K1 hK1 => ?run) (fun hb => ?skip) (fun ρ hP hM => ?_)
   case skip => exact skA (want := false) (b := _) (by rw [hb]; rfl) hL.2.2.2.2.2.2 rfl
   case run =>
    simp only [List.take_succ_cons, List.take_zero]
    rw [hb] at hL
    try simp only [go_sem, simprocAttr, hL, hX, q0, q1, q2, g0, g1, g2]
    repeat' refine And.intro (by first | rfl | omega | (simp; done)) ?_
    refine hK1 _ ?_ ?_ ?_ <;> simp only [go_sem, simprocAttr, hL, hX, q0, q1, q2, g0, g1, g2] <;> exact rfl
   simp only [List.drop_succ_cons, List.drop_zero]
   try simp only [go_sem, simprocAttr, hL, hX, q0, q1, q2, g0, g1, g2] at hM
   replace hL := And.intro hP hM
   clear hP hM
   try simp only [go_sem, simprocAttr, hL, hX, q0, q1, q2, g0, g1, g2]
   repeat' refine And.intro (by first | rfl | omega | (simp; done)) ?_
   refine awpS_live [0, 2, 15, 17, 18, 86] fun ρ hM => ?_
   try simp only [go_sem, simprocAttr, hL, hX, q0, q1, q2, g0, g1, g2] at hM
   clear hL
   have hL := hM
   clear hM
   refine grp_orN (tc := 86) (tv := 88) (td := 89) (v := ?v3) 2 rfl [0, 2, 17, 18] hL.2.2.2.2.2 rfl (fun hb K1 hK1 => ?run) (fun hb => ?skip) (fun ρ hP hM => ?_)
   case skip => exact skA (want := false) (b := _) (by rw [hb]; rfl) hL.2.2.2.2.2 rfl
   case run =>
    simp only [List.take_succ_cons, List.take_zero]
    rw [hb] at hL
    try simp only [go_sem, simprocAttr, hL, hX, q0, q1, q2, g0, g1, g2]
    repeat' refine And.intro (by first | rfl | omega | (simp; done)) ?_
    refine hK1 _ ?_ ?_ ?_ <;> simp only [go_sem, simprocAttr, hL, hX, q0, q1, q2, g0, g1, g2] <;> exact rfl
   simp only [List.drop_succ_cons, List.drop_zero]
   try simp only [go_sem, simprocAttr, hL, hX, q0, q1, q2, g0, g1, g2] at hM
   replace hL := And.intro hP hM
   clear hP hM
   try simp only [go_sem, simprocAttr, hL, hX, q0, q1, q2, g0, g1, g2]
   repeat' refine And.intro (by first | rfl | omega | (simp; done)) ?_
   refine awpS_live [0, 2, 17, 18, 90] fun ρ hM => ?_
   try simp only [go_sem, simprocAttr, hL, hX, q0, q1, q2, g0, g1, g2] at hM
   clear hL
   have hL := hM
   clear hM
   refine grp_orN (tc := 90) (tv := 92) (td := 93) (v := ?v4) 2 rfl [0, 2, 18] hL.2.2.2.2 rfl (fun hb K1 hK1 => ?run) (fun hb => ?skip) (fun ρ hP hM => ?_)
   case skip => exact skA (want := false) (b := _) (by rw [hb]; rfl) hL.2.2.2.2 rfl
   case run =>
    simp only [List.take_succ_cons, List.take_zero]
    rw [hb] at hL
    try simp only [go_sem, simprocAttr, hL, hX, q0, q1, q2, g0, g1, g2]
    repeat' refine And.intro (by first | rfl | omega | (simp; done)) ?_
    refine hK1 _ ?_ ?_ ?_ <;> simp only [go_sem, simprocAttr, hL, hX, q0, q1, q2, g0, g1, g2] <;> exact rfl
   simp only [List.drop_succ_cons, List.drop_zero]
   try simp only [go_sem, simprocAttr, hL, hX, q0, q1, q2, g0, g1, g2] at hM
   replace hL := And.intro hP hM
   clear hP hM
   try simp only [go_sem, simprocAttr, hL, hX, q0, q1, q2, g0, g1, g2]
   repeat' refine And.intro (by first | rfl | omega | (simp; done)) ?_
   refine awpS_live [0, 2, 18, 94] fun ρ hM => ?_
   try simp only [go_sem, simprocAttr, hL, hX, q0, q1, q2, g0, g1, g2] at hM
   clear hL
   have hL := hM
   clear hM
   refine grp_orN (tc := 94) (tv := 97) (td := 98) (v := ?v5) 3 rfl [0, 2, 18] hL.2.2.2 rfl (fun hb K1 hK1 => ?run) (fun hb => ?skip) (fun ρ hP hM => ?_)
   case skip => exact skA (want := false) (b := _) (by rw [hb]; rfl) hL.2.2.2 rfl
   case run =>
    simp only [List.take_succ_cons, List.take_zero]
    rw [hb] at hL
    try simp only [go_sem, simprocAttr, hL, hX, q0, q1, q2, g0, g1, g2]
    repeat' refine And.intro (by first | rfl | omega | (simp; done)) ?_
    refine opS_call_ro rfl (sat_impl_KeyOk (keyI l)) ?ha ?hv ?hh ?_
    case ha => simp only [go_sem, simprocAttr, hL, hX, q0, q1, q2, g0, g1, g2]; first | done | rfl
    case hv => first | rfl | (simp only [go_sem]; done)
    case hh => first | rfl | (simp only [go_sem]; done)
    try simp only [go_sem, simprocAttr, hL, hX, q0, q1, q2, g0, g1, g2]
    repeat' refine And.intro (by first | rfl | omega | (simp; done)) ?_
    refine hK1 _ ?_ ?_ ?_ <;> simp only [go_sem, simprocAttr, hL, hX, q0, q1, q2, g0, g1, g2] <;> exact rfl
   simp only [List.drop_succ_cons, List.drop_zero]
   try simp only [go_sem, simprocAttr, hL, hX, q0, q1, q2, g0, g1, g2] at hM
   replace hL := And.intro hP hM
   clear hP hM
   try simp only [go_sem, simprocAttr, hL, hX, q0, q1, q2, g0, g1, g2]
   repeat' refine And.intro (by first | rfl | omega | (simp; done)) ?_
   refine awpS_live [0, 2, 18, 99] fun ρ hM => ?_
   try simp only [go_sem, simprocAttr, hL, hX, q0, q1, q2, g0, g1, g2] at hM
   clear hL
   have hL := hM
   clear hM
   refine grp_orN (tc := 99) (tv := 103) (td := 104) (v := ?v6) 4 rfl [2, 18] hL.2.2.2 rfl (fun hb K1 hK1 => ?run) (fun hb => ?skip) (fun ρ hP hM => ?_)
   case skip => exact skA (want := false) (b := _) (by rw [hb]; rfl) hL.2.2.2 rfl
   case run =>
    simp only [List.take_succ_cons, List.take_zero]
    rw [hb] at hL
    try simp only [go_sem, simprocAttr, hL, hX, q0, q1, q2, g0, g1, g2]
    repeat' refine And.intro (by first | rfl | omega | (simp; done)) ?_
    refine opS_call_ro rfl (sat_impl_KeyText (keyI l)) ?ha ?hv ?hh ?_
    case ha => simp only [go_sem, simprocAttr, hL, hX, q0, q1, q2, g0, g1, g2]; first | done | rfl
    case hv => first | rfl | (simp only [go_sem]; done)
    case hh => first | rfl | (simp only [go_sem]; done)
    try simp only [go_sem, simprocAttr, hL, hX, q0, q1, q2, g0, g1, g2]
    repeat' refine And.intro (by first | rfl | omega | (simp; done)) ?_
    refine hK1 _ ?_ ?_ ?_ <;> simp only [go_sem, simprocAttr, hL, hX, q0, q1, q2, g0, g1, g2] <;> exact rfl
   simp only [List.drop_succ_cons, List.drop_zero]
   try simp only [go_sem, simprocAttr, hL, hX, q0, q1, q2, g0, g1, g2] at hM
   replace hL := And.intro hP hM
   clear hP hM
   try simp only [go_sem, simprocAttr, hL, hX, q0, q1, q2, g0, g1, g2]
   repeat' refine And.intro (by first | rfl | omega | (simp; done)) ?_
   refine hK _ _ (.mk (awl_live' [2, 18, 104] fun ρ hM => ?_))
   try simp only [go_sem, simprocAttr, hL, hX, q0, q1, q2, g0, g1, g2] at hM
   clear hK K hL
   revert ρ hM
   refine zC ?_ ?_
   · intro c4
     refine zS [2, 3] ?_
     refine zR ?_
     try simp only [go_sem, simprocAttr]
     all_goals try clear hR1
     all_goals (rw [kr_no c4]; rfl)
   · intro c4
     intro ρ hL
     refine awl_skip ?_
     revert ρ hL
     refine zS [2, 3] ?_
     refine zR ?_
     try simp only [go_sem, simprocAttr]
     all_goals try clear hR1
     all_goals (rw [kr_yes c4]; rfl)
end
end Go.Proofs.YtgpjgljgplngpaaDoor.AM
