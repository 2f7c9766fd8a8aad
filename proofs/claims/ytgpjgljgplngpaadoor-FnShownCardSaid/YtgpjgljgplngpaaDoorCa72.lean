/- Keys read. No conditions but those each theorem bears. -/
import Derived.Test.YtgpjgljgplngpaaDoorFa
import Derived.Test.YtgpjgljgplngpaaDoorLb3
import Derived.Test.YtgpjgljgplngpaaDoorTx6
import Derived.Test.YtgpjgljgplngpaaDoorCa70
set_option linter.unusedSimpArgs false
set_option linter.unusedVariables false
namespace Go.Proofs.YtgpjgljgplngpaaDoor.AM
open Go
set_option maxHeartbeats 8000000
set_option maxRecDepth 100000

section
attribute [local go_sem] mk_bt bt_app bt_fits bt_size bt_ext bt_bat List.length_cons List.length_nil List.take_length
theorem sat_internal_stringslite_Cut (l : Bs) (c : UInt8) (hl : l.length ≤ 1048576) : Sat Tryd.prog 46 [.str (bt l), .str (bt [c])] [] (.tuple [.str (bt (cutB l c).1), .str (bt (cutB l c).2.1), .bool (cutB l c).2.2]) [] := by
 have hX := trivial
 refine sat_mk [.tmp 4, .tmp 5, .tmp 6] 0 23 Tryd.call46 Tryd.func46 Tryd.ntmps46 rfl rfl rfl rfl rfl ?_
 refine zI [0, 1] ?_
 refine zS [0, 1] ?_
 refine zSF [0, 1, 7] (sat_slite_Index l c) ?_
 refine zS [0, 1, 7, 12] ?_
 refine zC ?_ ?_
 · intro c1
   obtain ⟨q, hq⟩ := Int.eq_ofNat_of_zero_le (show 0 ≤ Lib.indexByte l c by simpa using c1)
   have hlt := index_lt (c := c) (l := l)
   intro ρ hL
   rw [hq] at hlt
   have s1 : (0 : Int) ≤ (q : Int) := by omega
   have s2 : (q : Int) ≤ (l.length : Int) := by omega
   have s3 : IntKind.i64.wrap ((q : Int) + 1) = ((q + 1 : Nat) : Int) := by rw [wrap64 (by omega)]; omega
   have s4 : (0 : Int) ≤ ((q + 1 : Nat) : Int) := by omega
   have s5 : ((q + 1 : Nat) : Int) ≤ (l.length : Int) := by omega
   have hX0 := hX
   replace hX := And.intro hq (And.intro s1 (And.intro s2 (And.intro s3 (And.intro s4 (And.intro s5 hX)))))
   revert ρ hL
   refine zD [0, 0, 3, 0, 0, 0, 32, 112, 248, 7, 1023, 2047] [4, 5, 6] ?_
   clear hX
   have hX := hX0
   clear hX0
   refine zR ?_
   try simp only [go_sem, simprocAttr]
   all_goals (rw [cutB, if_neg (by omega), hq]; try rfl)
 · intro c1
   intro ρ hL
   refine awl_skip ?_
   revert ρ hL
   refine zS [4, 5, 6] ?_
   refine zR ?_
   try simp only [go_sem, simprocAttr]
   all_goals (rw [cutB, if_pos (by simpa using c1)]; try rfl)
end
theorem sat_strings_Cut (l : Bs) (c : UInt8) (hl : l.length ≤ 1048576) : Sat Tryd.prog 31 [.str (bt l), .str (bt [c])] [] (.tuple [.str (bt (cutB l c).1), .str (bt (cutB l c).2.1), .bool (cutB l c).2.2]) [] := by
 have hX := trivial
 refine sat_mk [.tmp 4, .tmp 5, .tmp 6] 0 13 Tryd.call31 Tryd.func31 Tryd.ntmps31 rfl rfl rfl rfl rfl ?_
 refine zI [0, 1] ?_
 refine zS [0, 1] ?_
 refine zSF [4, 5, 6] (sat_internal_stringslite_Cut l c hl) ?_
 refine zR ?_
 try simp only [go_sem, simprocAttr]
 all_goals (rfl)
section
attribute [local go_sem] mk_bt bt_app bt_fits bt_size bt_ext bt_bat List.length_cons List.length_nil List.take_length
theorem sat_spec_l19Num (l : Bs) (a : Nat) (hl : l.length ≤ 1048576) (ha : a ≤ 2097152) : Sat Tryd.prog 30 [.str (bt l), .int .i64 (a : Int)] [] (.tuple [.int .i64 ((numA l a).1 : Int), .int .i64 ((numA l a).2 : Int)]) [] := by
 have hX := trivial
 refine sat_mk [.tmp 4, .tmp 5] 0 42 Tryd.call30 Tryd.func30 Tryd.ntmps30 rfl rfl rfl rfl rfl ?_
 refine zI [0, 1] ?_
 refine zS [0, 1] ?_
 refine zS [0, 1, 6] ?_
 refine zS [0, 1, 6, 7] ?_
 intro ρ hL
 have e1 := hL
 refine awl_loopH (fun H0 n σ G => ∃ (i : Nat) (v : Nat), n = 4 - i ∧ (i ≤ 4) ∧ ((scan (4 - i) (l.drop (a + i)) v).1 = (numA l a).1 ∧ a + i + (scan (4 - i) (l.drop (a + i)) v).2 = (numA l a).2) ∧ (v < 10 ^ i) ∧ (liveE [0] σ ρ ∧ σ 1 = .int .i64 ((a + i : Nat) : Int) ∧ σ 6 = .int .i64 (v : Int) ∧ σ 7 = .int .i64 (i : Int)) ∧ G = H0) (fun H0 σ G => (σ 1 = .int .i64 ((numA l a).2 : Int) ∧ σ 6 = .int .i64 ((numA l a).1 : Int)) ∧ G = H0) ((fun (i : Nat) (v : Nat) => 4 - i) 0  0) ?init1 (fun n ρ G hI => ?round1) (fun ρ G hJ => ?after1)
 case init1 => exact ⟨0, 0, rfl, (Nat.zero_le _), (⟨rfl, rfl⟩), (by decide), ⟨liveE_refl _ _, (hL.2.1), (hL.2.2.1), (hL.2.2.2)⟩, rfl⟩
 case round1 =>
  clear hL
  obtain ⟨i, v, hn, i1_0, i1_1, i1_2, hL, hG⟩ := hI
  subst hG
  try simp only [go_sem, simprocAttr, e1, hX] at hL
  refine zA ?_
  intro K hK
  refine zL [0, 1, 6, 7, 10] ?_
  clear hL
  intro ρ hL
  refine grp_andN (tc := 10) (tv := 14) (td := 15) (v := ?v1) 4 rfl [0, 1, 6, 7] hL.2.2.2.2 rfl (fun hb K1 hK1 => ?run) (fun hb => ?skip) (fun ρ hP hM => ?_)
  case skip => exact skA (want := true) (b := _) (by rw [hb]; rfl) hL.2.2.2.2 rfl
  case run =>
   simp only [List.take_succ_cons, List.take_zero]
   rw [hb] at hL
   try simp only [go_sem, simprocAttr, hL, hX]
   repeat' refine And.intro (by first | rfl | omega | (simp; done)) ?_
   refine hK1 _ ?_ ?_ ?_ <;> simp only [go_sem, simprocAttr, hL, hX] <;> exact rfl
  simp only [List.drop_succ_cons, List.drop_zero]
  try simp only [go_sem, simprocAttr, hL, hX] at hM
  replace hL := And.intro hP hM
  clear hP hM
  try simp only [go_sem, simprocAttr, hL, hX]
  repeat' refine And.intro (by first | rfl | omega | (simp; done)) ?_
  refine zL [0, 1, 6, 7, 16] ?_
  clear hL
  intro ρ hL
  refine grp_andN (tc := 16) (tv := 20) (td := 21) (v := ?v2) 4 rfl [0, 1, 6, 7] hL.2.2.2.2 rfl (fun hb K1 hK1 => ?run) (fun hb => ?skip) (fun ρ hP hM => ?_)
  case skip => exact skA (want := true) (b := _) (by rw [hb]; rfl) hL.2.2.2.2 rfl
  case run =>
   simp only [List.take_succ_cons, List.take_zero]
   rw [hb] at hL
   have hz : a + i < l.length := by have := hb; simp at this; omega
   have s1 : (0 : Int) ≤ ((a + i : Nat) : Int) := by omega
   have s2 : ((a + i : Nat) : Int) < (l.length : Int) := by omega
   try simp only [go_sem, simprocAttr, hL, hX, s1, s2]
   repeat' refine And.intro (by first | rfl | omega | (simp; done)) ?_
   refine hK1 _ ?_ ?_ ?_ <;> simp only [go_sem, simprocAttr, hL, hX, s1, s2] <;> exact rfl
  simp only [List.drop_succ_cons, List.drop_zero]
  try simp only [go_sem, simprocAttr, hL, hX] at hM
  replace hL := And.intro hP hM
  clear hP hM
  try simp only [go_sem, simprocAttr, hL, hX]
  repeat' refine And.intro (by first | rfl | omega | (simp; done)) ?_
  refine zL [0, 1, 6, 7, 22] ?_
  clear hL
  intro ρ hL
  refine grp_andN (tc := 22) (tv := 26) (td := 27) (v := ?v3) 4 rfl [0, 1, 6, 7] hL.2.2.2.2 rfl (fun hb K1 hK1 => ?run) (fun hb => ?skip) (fun ρ hP hM => ?_)
  case skip => exact skA (want := true) (b := _) (by rw [hb]; rfl) hL.2.2.2.2 rfl
  case run =>
   simp only [List.take_succ_cons, List.take_zero]
   rw [hb] at hL
   have hz : a + i < l.length := by have := hb; simp at this; omega
   have s1 : (0 : Int) ≤ ((a + i : Nat) : Int) := by omega
   have s2 : ((a + i : Nat) : Int) < (l.length : Int) := by omega
   try simp only [go_sem, simprocAttr, hL, hX, s1, s2]
   repeat' refine And.intro (by first | rfl | omega | (simp; done)) ?_
   refine hK1 _ ?_ ?_ ?_ <;> simp only [go_sem, simprocAttr, hL, hX, s1, s2] <;> exact rfl
  simp only [List.drop_succ_cons, List.drop_zero]
  try simp only [go_sem, simprocAttr, hL, hX] at hM
  replace hL := And.intro hP hM
  clear hP hM
  try simp only [go_sem, simprocAttr, hL, hX]
  repeat' refine And.intro (by first | rfl | omega | (simp; done)) ?_
  refine zE [0, 1, 6, 7, 27] ?_
  clear hK K hL
  refine zC ?_ ?_
  · intro c1
    intro ρ hL
    refine awl_skip ?_
    refine awl_seq ?_
    refine awl_block fun R1 hw1 hR1 => ?_
    have hz : i < 4 ∧ a + i < l.length ∧ 48 ≤ (l.getD (a + i) 0).toNat ∧ (l.getD (a + i) 0).toNat ≤ 57 := by have h := c1; generalize (l.getD (a + i) 0).toNat = z at h ⊢; simp at h; omega
    have hv : v < 10000 := Nat.lt_of_lt_of_le i1_2 (Nat.pow_le_pow_right (by decide) (show i ≤ 4 by omega))
    have s1 : (0 : Int) ≤ ((a + i : Nat) : Int) := by omega
    have s2 : ((a + i : Nat) : Int) < (l.length : Int) := by omega
    have v1 : IntKind.i64.wrap (10 * (v : Int)) = ((10 * v : Nat) : Int) := by rw [wrap64 (by omega)]; omega
    have v2 : IntKind.i64.wrap (((l.getD (a + i) 0).toNat : Nat) : Int) = (((l.getD (a + i) 0).toNat : Nat) : Int) := wrap64 (by omega)
    have v3 : IntKind.i64.wrap (((10 * v : Nat) : Int) + (((l.getD (a + i) 0).toNat : Nat) : Int)) = ((10 * v + (l.getD (a + i) 0).toNat : Nat) : Int) := by rw [wrap64 (by omega)]; omega
    have v4 : IntKind.i64.wrap (((10 * v + (l.getD (a + i) 0).toNat : Nat) : Int) - 48) = ((10 * v + ((l.getD (a + i) 0).toNat - 48) : Nat) : Int) := by rw [wrap64 (by omega)]; omega
    have v5 : IntKind.i64.wrap (((a + i : Nat) : Int) + 1) = ((a + (i + 1) : Nat) : Int) := by rw [wrap64 (by omega)]; omega
    have v6 : IntKind.i64.wrap ((i : Int) + 1) = ((i + 1 : Nat) : Int) := by rw [wrap64 (by omega)]; omega
    repeat refine awl_seq ?_
    refine awl_regS _ rfl fun K hK => ?_
    try simp only [go_sem, simprocAttr, hL, hX, s1, s2, v1, v2, v3, v4]
    repeat' refine And.intro (by first | rfl | omega | (simp; done)) ?_
    refine hK _ _ (.mk (awl_live' [0, 1, 6, 7] fun ρ hM => ?_))
    try simp only [go_sem, simprocAttr, hL, hX, s1, s2, v1, v2, v3, v4] at hM
    clear hK K hL
    revert ρ hM
    intro ρ hL
    repeat refine awl_seq ?_
    refine awl_regS _ rfl fun K hK => ?_
    try simp only [go_sem, simprocAttr, hL, hX, v5]
    repeat' refine And.intro (by first | rfl | omega | (simp; done)) ?_
    refine hK _ _ (.mk (awl_live' [0, 1, 6, 7] fun ρ hM => ?_))
    try simp only [go_sem, simprocAttr, hL, hX, v5] at hM
    clear hK K hL
    revert ρ hM
    intro ρ hL
    refine awl_nil ?_
    refine blk_normal (hR1 _ _ (.mk ?_))
    repeat refine awl_seq ?_
    refine awl_regS _ rfl fun K hK => ?_
    try simp only [go_sem, simprocAttr, hL, hX, v6]
    repeat' refine And.intro (by first | rfl | omega | (simp; done)) ?_
    refine hK _ _ (.mk (awl_live' [0, 1, 6, 7] fun ρ hM => ?_))
    try simp only [go_sem, simprocAttr, hL, hX, v6] at hM
    clear hK K hL
    revert ρ hM
    intro ρ hL
    refine awl_nil ?_
    refine loop_again _ ?meas ⟨(i + 1), (10 * v + ((l.getD (a + i) 0).toNat - 48)), rfl, (by omega), (by rw [show 4 - i = 4 - (i + 1) + 1 by omega, scan_go hz.2.1 hz.2.2.1 hz.2.2.2] at i1_1; exact ⟨i1_1.1, by rw [← i1_1.2]; simp only; rw [show a + (i + 1) = a + i + 1 by omega]; omega⟩), (by rw [Nat.pow_succ]; omega), ⟨(by simp only [go_sem, simprocAttr, hL, hX, e1]), (hL.2.1), (hL.2.2.1), (hL.2.2.2)⟩, rfl⟩
    case meas => subst hn; omega
  · intro c1
    intro ρ hL
    refine awl_exit ?_
    refine loop_break ?_
    exact ⟨⟨(by have hs := scan_stop (l := l) (p := a + i) (k := 4 - i) (v := v) (by generalize (l.getD (a + i) 0).toNat = z at c1 ⊢; simp at c1; omega); rw [hs] at i1_1; rw [hL.2.1, ← i1_1.2]; rfl), (by have hs := scan_stop (l := l) (p := a + i) (k := 4 - i) (v := v) (by generalize (l.getD (a + i) 0).toNat = z at c1 ⊢; simp at c1; omega); rw [hs] at i1_1; rw [hL.2.2.1, ← i1_1.1])⟩, rfl⟩
 case after1 =>
  clear hL
  obtain ⟨hL, hG⟩ := hJ
  subst hG
  revert ρ hL
  refine zS [4, 5] ?_
  refine zR ?_
  try simp only [go_sem, simprocAttr]
  all_goals try clear hR1
  all_goals (rfl)
end
section
attribute [local go_sem] mk_bt bt_app bt_fits bt_size bt_ext bt_bat List.length_cons List.length_nil List.take_length
theorem sat_spec_KeyRead (l : Bs) (hl : l.length ≤ 1048576) : Sat Tryd.prog 13 [.str (bt l)] [] (.tuple [.agg (keyRead l).1.cells, .bool (keyRead l).2]) [] := by
 have hX := trivial
 refine sat_mk [.cell 2 25, .tmp 3] 0 78 Tryd.call13 Tryd.func13 Tryd.ntmps13 rfl rfl rfl rfl rfl ?_
 refine zI [0] ?_
 refine zS [0, 2] ?_
 refine zS [0, 2, 4] ?_
 have n1 := numA_len (l := l) (a := 1)
 have n2 := numA_len (l := l) (a := ((numA l 1).2 + 1))
 refine zSF [0, 2, 4, 5, 6] (sat_spec_l19Num l 1 hl (by omega)) ?_
 refine zS [0, 2, 4, 6] ?_
 have w4 : IntKind.i64.wrap (((numA l 1).2 : Int) + 1) = ((((numA l 1).2 + 1) : Nat) : Int) := by rw [wrap64 (by omega)]; omega
 have hX0 := hX
 replace hX := And.intro w4 hX
 refine zSF [0, 2, 4, 7, 8] (sat_spec_l19Num l ((numA l 1).2 + 1) hl (by omega)) ?_
 clear hX
 have hX := hX0
 clear hX0
 refine zS [0, 2, 4, 8] ?_
 have w6 : IntKind.i64.wrap (((numA l ((numA l 1).2 + 1)).2 : Int) + 1) = ((((numA l ((numA l 1).2 + 1)).2 + 1) : Nat) : Int) := by rw [wrap64 (by omega)]; omega
 have hX0 := hX
 replace hX := And.intro w6 hX
 refine zS [0, 2, 4, 9] ?_
 clear hX
 have hX := hX0
 clear hX0
 intro ρ hL
 have e1 := hL
 refine awl_loopH (fun H0 n σ G => ∃ (i : Nat) (p : Int), n = l.length - i ∧ (tailS (l.drop i) p = (tailS (l.drop ((numA l ((numA l 1).2 + 1)).2 + 1)) 0)) ∧ (i ≤ 2097152) ∧ (liveE [0, 2, 4] σ ρ ∧ σ 9 = .int .i64 (i : Int)) ∧ G = [⟨4, [.int .i64 0, .int .i64 0, .int .i64 0, .int .i64 0], true, false⟩, ⟨4, [.int .i64 ((numA l 1).1 : Int), .int .i64 ((numA l ((numA l 1).2 + 1)).1 : Int), .int .i64 p, .int .i64 0], true, false⟩]) (fun H0 σ G => (liveE [0, 2, 4] σ ρ) ∧ G = [⟨4, [.int .i64 0, .int .i64 0, .int .i64 0, .int .i64 0], true, false⟩, ⟨4, [.int .i64 ((numA l 1).1 : Int), .int .i64 ((numA l ((numA l 1).2 + 1)).1 : Int), .int .i64 (tailS (l.drop ((numA l ((numA l 1).2 + 1)).2 + 1)) 0).1, .int .i64 (tailS (l.drop ((numA l ((numA l 1).2 + 1)).2 + 1)) 0).2], true, false⟩]) ((fun (i : Nat) (p : Int) => l.length - i) ((numA l ((numA l 1).2 + 1)).2 + 1)  0) ?init1 (fun n ρ G hI => ?round1) (fun ρ G hJ => ?after1)
 case init1 => exact ⟨((numA l ((numA l 1).2 + 1)).2 + 1), 0, rfl, (rfl), (by omega), ⟨liveE_refl _ _, (hL.2.2.2)⟩, rfl⟩
 case round1 =>
  clear hL
  obtain ⟨i, p, hn, i1_0, i1_1, hL, hG⟩ := hI
  subst hG
  try simp only [go_sem, simprocAttr, e1, hX] at hL
  revert ρ hL
  refine zS [0, 2, 4, 9, 33] ?_
  refine zC ?_ ?_
  · intro c1
    intro ρ hL
    refine awl_skip ?_
    refine awl_seq ?_
    refine awl_block fun R1 hw1 hR1 => ?_
    have hz : i < l.length := by omega
    have s1 : (0 : Int) ≤ (i : Int) := by omega
    have s2 : (i : Int) < (l.length : Int) := by omega
    have s3 : (0 : Int) ≤ ((i + 1 : Nat) : Int) := by omega
    have s4 : ((i + 1 : Nat) : Int) ≤ (l.length : Int) := by omega
    have s5 : (i : Int) ≤ ((i + 1 : Nat) : Int) := by omega
    have hX0 := hX
    replace hX := And.intro s1 (And.intro s2 hX)
    revert ρ hL
    refine zS [0, 2, 4, 9, 39] ?_
    clear hX
    have hX := hX0
    clear hX0
    refine zC ?_ ?_
    · intro c2
      have w9 : IntKind.i64.wrap ((i : Int) + 1) = ((i + 1 : Nat) : Int) := by rw [wrap64 (by omega)]; omega
      have hX0 := hX
      replace hX := And.intro w9 hX
      refine zSF [0, 2, 4] (sat_spec_l19Num l (i + 1) hl (by omega)) ?_
      clear hX
      have hX := hX0
      clear hX0
      intro ρ hL
      refine awl_exit ?_
      refine blk_other (by decide) ?_
      refine loop_break ?_
      exact ⟨(by simp only [go_sem, simprocAttr, hL, hX, e1]), (by rw [← i1_0, tailS_lock hz (by omega)])⟩
    · intro c2
      intro ρ hL
      refine awl_skip ?_
      revert ρ hL
      refine zS [0, 2, 4, 9, 10] ?_
      intro ρ hL
      have e2 := hL
      refine awl_loopH (fun H0 n σ G => ∃ (k : Nat), n = 6 - k ∧ (k ≤ 6) ∧ (liveE [0, 2, 4, 9] σ ρ ∧ σ 10 = .int .i64 (k : Int)) ∧ G = [⟨4, [.int .i64 0, .int .i64 0, .int .i64 0, .int .i64 0], true, false⟩, ⟨4, [.int .i64 ((numA l 1).1 : Int), .int .i64 ((numA l ((numA l 1).2 + 1)).1 : Int), .int .i64 (orL (l.getD i 0) k p), .int .i64 0], true, false⟩]) (fun H0 σ G => (liveE [0, 2, 4, 9] σ ρ) ∧ G = [⟨4, [.int .i64 0, .int .i64 0, .int .i64 0, .int .i64 0], true, false⟩, ⟨4, [.int .i64 ((numA l 1).1 : Int), .int .i64 ((numA l ((numA l 1).2 + 1)).1 : Int), .int .i64 (orL (l.getD i 0) 6 p), .int .i64 0], true, false⟩]) ((fun (k : Nat) => 6 - k) 0) ?init2 (fun n ρ G hI => ?round2) (fun ρ G hJ => ?after2)
      case init2 => exact ⟨0, rfl, (Nat.zero_le _), ⟨liveE_refl _ _, (hL.2.2.2.2)⟩, rfl⟩
      case round2 =>
       clear hL
       obtain ⟨k, hn, i2_0, hL, hG⟩ := hI
       subst hG
       try simp only [go_sem, simprocAttr, e2, hX] at hL
       revert ρ hL
       refine zS [0, 2, 4, 9, 10, 49] ?_
       refine zC ?_ ?_
       · intro c3
         have hi2 : k < 6 := by omega
         replace hX := And.intro hi2 hX
         intro ρ hL
         refine awl_skip ?_
         refine awl_seq ?_
         refine awl_block fun R2 hw2 hR2 => ?_
         have w9 : IntKind.i64.wrap ((i : Int) + 1) = ((i + 1 : Nat) : Int) := by rw [wrap64 (by omega)]; omega
         have hcut := cut_one hz
         have f6 := lets_row hi2
         repeat refine awl_seq ?_
         refine awl_regD mixed _ rfl fun K hK => ?_
         try simp only [go_sem, simprocAttr, hL, hX, w9, hcut, f6, s1, s3, s4, s5]
         repeat' refine And.intro (by first | omega | (exact ⟨[0, 0, 0, 4, 15, 0, 0, 96, 224, 511], by kernel_rfl⟩) | kernel_rfl) ?_
         refine dS_call_ro rfl (sat_spec_l19Letters) ?ha ?hv ?hh ?_
         case ha => simp only [go_sem, simprocAttr, hL, hX, w9, hcut, f6, s1, s3, s4, s5]; first | done | rfl
         case hv => first | rfl | (simp only [go_sem]; done)
         case hh => first | rfl | (simp only [go_sem]; done)
         try simp only [go_sem, simprocAttr, hL, hX, w9, hcut, f6, s1, s3, s4, s5]
         repeat' refine And.intro (by first | omega | (exact ⟨[0, 0, 0, 4, 15, 0, 0, 96, 224, 511], by kernel_rfl⟩) | kernel_rfl) ?_
         refine hK _ _ (.mk (awl_live' [0, 2, 4, 9, 10, 61] fun ρ hM => ?_))
         try simp only [go_sem, simprocAttr, hL, hX, w9, hcut, f6, s1, s3, s4, s5] at hM
         clear hK K hL
         revert ρ hM
         refine zC ?_ ?_
         · intro c4
           have hm : min k 64 = k := by omega
           have hw := shl_fits hi2
           have hX0 := hX
           replace hX := And.intro hm (And.intro hw hX)
           refine zD [0, 1, 0, 4, 15, 31, 63] [0, 2, 4, 9, 10] ?_
           clear hX
           have hX := hX0
           clear hX0
           intro ρ hL
           refine awl_nil ?_
           refine blk_normal (hR2 _ _ (.mk ?_))
           have w2 : IntKind.i64.wrap ((k : Int) + 1) = ((k + 1 : Nat) : Int) := by rw [wrap64 (by omega)]; omega
           replace hX := And.intro w2 hX
           revert ρ hL
           refine zS [0, 2, 4, 9, 10] ?_
           intro ρ hL
           refine awl_nil ?_
           refine loop_againW (Wk.keep [0, 1] rfl) _ ?meas ⟨k + 1, rfl, (by omega), ⟨(by simp only [go_sem, simprocAttr, hL, hX, e2]), (by simp only [go_sem, simprocAttr, hL, hX, e2]; first | done | rfl)⟩, (by simp only [go_sem, simprocAttr, hL, hX, e2]; rw [orL_yes c4])⟩
           case meas => subst hn; omega
         · intro c4
           intro ρ hL
           refine awl_skip ?_
           refine awl_nil ?_
           refine blk_normal (hR2 _ _ (.mk ?_))
           have w2 : IntKind.i64.wrap ((k : Int) + 1) = ((k + 1 : Nat) : Int) := by rw [wrap64 (by omega)]; omega
           replace hX := And.intro w2 hX
           revert ρ hL
           refine zS [0, 2, 4, 9, 10] ?_
           intro ρ hL
           refine awl_nil ?_
           refine loop_againW (Wk.keep [0, 1] rfl) _ ?meas ⟨k + 1, rfl, (by omega), ⟨(by simp only [go_sem, simprocAttr, hL, hX, e2]), (by simp only [go_sem, simprocAttr, hL, hX, e2]; first | done | rfl)⟩, (by simp only [go_sem, simprocAttr, hL, hX, e2]; rw [orL_no c4])⟩
           case meas => subst hn; omega
       · intro c3
         intro ρ hL
         refine awl_exit ?_
         refine loop_break ?_
         exact ⟨(by simp only [go_sem, simprocAttr, hL, hX, e2]), (by rw [show k = 6 by omega])⟩
      case after2 =>
       clear hL
       obtain ⟨hL, hG⟩ := hJ
       subst hG
       try simp only [go_sem, simprocAttr, e2, hX] at hL
       refine awl_nil ?_
       refine blk_normal (hR1 _ _ (.mk ?_))
       have w9 : IntKind.i64.wrap ((i : Int) + 1) = ((i + 1 : Nat) : Int) := by rw [wrap64 (by omega)]; omega
       have hX0 := hX
       replace hX := And.intro w9 hX
       revert ρ hL
       refine zS [0, 2, 4, 9] ?_
       clear hX
       have hX := hX0
       clear hX0
       intro ρ hL
       refine awl_nil ?_
       refine loop_againW (Wk.keep [0, 1] rfl) _ ?meas ⟨(i + 1), (orL (l.getD i 0) 6 p), rfl, (by rw [← tailS_go hz (by omega)]; exact i1_0), (by omega), ⟨(by simp only [go_sem, simprocAttr, hL, hX, e1]), (by simp only [go_sem, simprocAttr, hL, hX, e1]; first | done | rfl)⟩, (by simp only [go_sem, simprocAttr, hL, hX, e1]; first | done | rfl)⟩
       case meas => subst hn; omega
  · intro c1
    intro ρ hL
    refine awl_exit ?_
    refine loop_break ?_
    exact ⟨(by simp only [go_sem, simprocAttr, hL, hX, e1]), (by rw [← i1_0, tailS_end (by omega)])⟩
 case after1 =>
  clear hL
  obtain ⟨hL, hG⟩ := hJ
  subst hG
  try simp only [go_sem, simprocAttr, e1, hX] at hL
  refine zA ?_
  intro K hK
  refine zL [0, 2, 4, 70] ?_
  clear hL
  intro ρ hL
  refine grp_orN (tc := 70) (tv := 74) (td := 75) (v := ?v1) 4 rfl [2, 4] hL.2.2.2 rfl (fun hb K1 hK1 => ?run) (fun hb => ?skip) (fun ρ hP hM => ?_)
  case skip => exact skA (want := false) (b := _) (by rw [hb]; rfl) hL.2.2.2 rfl
  case run =>
   simp only [List.take_succ_cons, List.take_zero]
   rw [hb] at hL
   try simp only [go_sem, simprocAttr, hL, hX]
   repeat' refine And.intro (by first | rfl | omega | (simp; done)) ?_
   refine zF (sat_spec_KeyText (keyS l)) ?_
   refine hK1 _ ?_ ?_ ?_ <;> simp only [go_sem, simprocAttr, hL, hX] <;> exact rfl
  simp only [List.drop_succ_cons, List.drop_zero]
  try simp only [go_sem, simprocAttr, hL, hX] at hM
  replace hL := And.intro hP hM
  clear hP hM
  try simp only [go_sem, simprocAttr, hL, hX]
  repeat' refine And.intro (by first | rfl | omega | (simp; done)) ?_
  refine zE [2, 4, 75] ?_
  clear hK K hL
  refine zC ?_ ?_
  · intro c5
    refine zS [2, 3] ?_
    refine zR ?_
    try simp only [go_sem, simprocAttr]
    all_goals try clear hR1
    all_goals try clear hR2
    all_goals (rw [keyRead_eq, if_neg (by intro h; revert c5; simp [h.1, h.2, bt_inj])]; rfl)
  · intro c5
    intro ρ hL
    refine awl_skip ?_
    revert ρ hL
    refine zS [2, 3] ?_
    refine zR ?_
    try simp only [go_sem, simprocAttr]
    all_goals try clear hR1
    all_goals try clear hR2
    all_goals (rw [keyRead_eq, if_pos (by revert c5; simp [bt_inj])]; rfl)
end
end Go.Proofs.YtgpjgljgplngpaaDoor.AM
