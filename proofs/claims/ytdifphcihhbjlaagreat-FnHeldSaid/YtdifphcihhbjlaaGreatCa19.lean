/- What is under what; closed. No conditions but those each theorem bears. -/
import Derived.Test.YtdifphcihhbjlaaGreatFa
import Derived.Test.YtdifphcihhbjlaaGreatM5
import Derived.Test.YtdifphcihhbjlaaGreatCa18
import Derived.Test.YtdifphcihhbjlaaGreatCb1
set_option linter.unusedSimpArgs false
set_option linter.unusedVariables false
namespace Go.Proofs.YtdifphcihhbjlaaGreat.AM
open Go
set_option maxHeartbeats 8000000
set_option maxRecDepth 100000

theorem sat_spec_Covers (a : Key) (b : Key)  : Sat Tryz.prog 220 [.agg a.cells, .agg b.cells] [] (.bool (covers a b)) [] := by
 have hX := trivial
 refine sat_mk [.tmp 4] 0 35 Tryz.call220 Tryz.func220 Tryz.ntmps220 rfl rfl rfl rfl rfl ?_
 refine zI [0, 1] ?_
 refine zS [2, 3] ?_
 intro ρ hL
 refine zA ?_
 intro K hK
 refine zF (sat_spec_KeyOk _) ?_
 refine zL [2, 3, 7] ?_
 clear hL
 intro ρ hL
 refine grp_andN (tc := 7) (tv := 9) (td := 10) (v := ?v1) 2 rfl [2, 3] hL.2.2 rfl (fun hb K1 hK1 => ?run) (fun hb => ?skip) (fun ρ hP hM => ?_)
 case skip => exact skA (want := true) (b := _) (by rw [hb]; rfl) hL.2.2 rfl
 case run =>
  simp only [List.take_succ_cons, List.take_zero]
  rw [hb] at hL
  try simp only [go_sem, simprocAttr, hL, hX]
  repeat' refine And.intro (by first | rfl | omega | (simp; done)) ?_
  refine zF (sat_spec_KeyOk _) ?_
  refine hK1 _ ?_ ?_ ?_ <;> simp only [go_sem, simprocAttr, hL, hX] <;> exact rfl
 simp only [List.drop_succ_cons, List.drop_zero]
 try simp only [go_sem, simprocAttr, hL, hX] at hM
 replace hL := And.intro hP hM
 clear hP hM
 try simp only [go_sem, simprocAttr, hL, hX]
 repeat' refine And.intro (by first | rfl | omega | (simp; done)) ?_
 refine zL [2, 3, 11] ?_
 clear hL
 intro ρ hL
 refine grp_andN (tc := 11) (tv := 16) (td := 17) (v := ?v2) 5 rfl [2, 3] hL.2.2 rfl (fun hb K1 hK1 => ?run) (fun hb => ?skip) (fun ρ hP hM => ?_)
 case skip => exact skA (want := true) (b := _) (by rw [hb]; rfl) hL.2.2 rfl
 case run =>
  simp only [List.take_succ_cons, List.take_zero]
  rw [hb] at hL
  try simp only [go_sem, simprocAttr, hL, hX]
  repeat' refine And.intro (by first | rfl | omega | (simp; done)) ?_
  refine hK1 _ ?_ ?_ ?_ <;> simp only [go_sem, simprocAttr, hL, hX] <;> exact rfl
 simp only [List.drop_succ_cons, List.drop_zero]
 try simp only [go_sem, simprocAttr, hL, hX] at hM
 replace hL := And.intro hP hM
 clear hP hM
 try simp only [go_sem, simprocAttr, hL, hX]
 repeat' refine And.intro (by first | rfl | omega | (simp; done)) ?_
 refine zL [2, 3, 18] ?_
 clear hL
 intro ρ hL
 refine grp_andN (tc := 18) (tv := 23) (td := 24) (v := ?v3) 5 rfl [2, 3] hL.2.2 rfl (fun hb K1 hK1 => ?run) (fun hb => ?skip) (fun ρ hP hM => ?_)
 case skip => exact skA (want := true) (b := _) (by rw [hb]; rfl) hL.2.2 rfl
 case run =>
  simp only [List.take_succ_cons, List.take_zero]
  rw [hb] at hL
  try simp only [go_sem, simprocAttr, hL, hX]
  repeat' refine And.intro (by first | rfl | omega | (simp; done)) ?_
  refine hK1 _ ?_ ?_ ?_ <;> simp only [go_sem, simprocAttr, hL, hX] <;> exact rfl
 simp only [List.drop_succ_cons, List.drop_zero]
 try simp only [go_sem, simprocAttr, hL, hX] at hM
 replace hL := And.intro hP hM
 clear hP hM
 try simp only [go_sem, simprocAttr, hL, hX]
 repeat' refine And.intro (by first | rfl | omega | (simp; done)) ?_
 refine zL [2, 3, 25] ?_
 clear hL
 intro ρ hL
 refine grp_andN (tc := 25) (tv := 33) (td := 34) (v := ?v4) 8 rfl [] hL.2.2 rfl (fun hb K1 hK1 => ?run) (fun hb => ?skip) (fun ρ hP hM => ?_)
 case skip => exact skA (want := true) (b := _) (by rw [hb]; rfl) hL.2.2 rfl
 case run =>
  simp only [List.take_succ_cons, List.take_zero]
  rw [hb] at hL
  try simp only [go_sem, simprocAttr, hL, hX]
  repeat' refine And.intro (by first | rfl | omega | (simp; done)) ?_
  refine hK1 _ ?_ ?_ ?_ <;> simp only [go_sem, simprocAttr, hL, hX] <;> exact rfl
 simp only [List.drop_succ_cons, List.drop_zero]
 clear hM hL
 have hL := hP
 clear hP
 try simp only [go_sem, simprocAttr, hL, hX]
 repeat' refine And.intro (by first | rfl | omega | (simp; done)) ?_
 refine zE [4] ?_
 clear hK K hL
 refine zR ?_
 try simp only [go_sem, simprocAttr]
 all_goals (rfl)
theorem sat_impl_Covers (a : Key) (b : Key)  : Sat Tryz.prog 134 [.agg a.cells, .agg b.cells] [] (.bool (covers a b)) [] := by
 have hX := trivial
 refine sat_mk [.tmp 4] 0 33 Tryz.call134 Tryz.func134 Tryz.ntmps134 rfl rfl rfl rfl rfl ?_
 refine zI [0, 1] ?_
 refine zS [2, 3] ?_
 intro ρ hL
 refine zA ?_
 intro K hK
 refine zF (sat_impl_KeyOk _) ?_
 refine zL [2, 3, 7] ?_
 clear hL
 intro ρ hL
 refine grp_andN (tc := 7) (tv := 9) (td := 10) (v := ?v1) 2 rfl [2, 3] hL.2.2 rfl (fun hb K1 hK1 => ?run) (fun hb => ?skip) (fun ρ hP hM => ?_)
 case skip => exact skA (want := true) (b := _) (by rw [hb]; rfl) hL.2.2 rfl
 case run =>
  simp only [List.take_succ_cons, List.take_zero]
  rw [hb] at hL
  try simp only [go_sem, simprocAttr, hL, hX]
  repeat' refine And.intro (by first | rfl | omega | (simp; done)) ?_
  refine zF (sat_impl_KeyOk _) ?_
  refine hK1 _ ?_ ?_ ?_ <;> simp only [go_sem, simprocAttr, hL, hX] <;> exact rfl
 simp only [List.drop_succ_cons, List.drop_zero]
 try simp only [go_sem, simprocAttr, hL, hX] at hM
 replace hL := And.intro hP hM
 clear hP hM
 try simp only [go_sem, simprocAttr, hL, hX]
 repeat' refine And.intro (by first | rfl | omega | (simp; done)) ?_
 refine zL [2, 3, 11] ?_
 clear hL
 intro ρ hL
 refine grp_andN (tc := 11) (tv := 16) (td := 17) (v := ?v2) 5 rfl [2, 3] hL.2.2 rfl (fun hb K1 hK1 => ?run) (fun hb => ?skip) (fun ρ hP hM => ?_)
 case skip => exact skA (want := true) (b := _) (by rw [hb]; rfl) hL.2.2 rfl
 case run =>
  simp only [List.take_succ_cons, List.take_zero]
  rw [hb] at hL
  try simp only [go_sem, simprocAttr, hL, hX]
  repeat' refine And.intro (by first | rfl | omega | (simp; done)) ?_
  refine hK1 _ ?_ ?_ ?_ <;> simp only [go_sem, simprocAttr, hL, hX] <;> exact rfl
 simp only [List.drop_succ_cons, List.drop_zero]
 try simp only [go_sem, simprocAttr, hL, hX] at hM
 replace hL := And.intro hP hM
 clear hP hM
 try simp only [go_sem, simprocAttr, hL, hX]
 repeat' refine And.intro (by first | rfl | omega | (simp; done)) ?_
 refine zL [2, 3, 18] ?_
 clear hL
 intro ρ hL
 refine grp_andN (tc := 18) (tv := 23) (td := 24) (v := ?v3) 5 rfl [2, 3] hL.2.2 rfl (fun hb K1 hK1 => ?run) (fun hb => ?skip) (fun ρ hP hM => ?_)
 case skip => exact skA (want := true) (b := _) (by rw [hb]; rfl) hL.2.2 rfl
 case run =>
  simp only [List.take_succ_cons, List.take_zero]
  rw [hb] at hL
  try simp only [go_sem, simprocAttr, hL, hX]
  repeat' refine And.intro (by first | rfl | omega | (simp; done)) ?_
  refine hK1 _ ?_ ?_ ?_ <;> simp only [go_sem, simprocAttr, hL, hX] <;> exact rfl
 simp only [List.drop_succ_cons, List.drop_zero]
 try simp only [go_sem, simprocAttr, hL, hX] at hM
 replace hL := And.intro hP hM
 clear hP hM
 try simp only [go_sem, simprocAttr, hL, hX]
 repeat' refine And.intro (by first | rfl | omega | (simp; done)) ?_
 refine zL [2, 3, 25] ?_
 clear hL
 intro ρ hL
 refine grp_andN (tc := 25) (tv := 31) (td := 32) (v := ?v4) 6 rfl [] hL.2.2 rfl (fun hb K1 hK1 => ?run) (fun hb => ?skip) (fun ρ hP hM => ?_)
 case skip => exact skA (want := true) (b := _) (by rw [hb]; rfl) hL.2.2 rfl
 case run =>
  simp only [List.take_succ_cons, List.take_zero]
  rw [hb] at hL
  try simp only [go_sem, simprocAttr, hL, hX]
  repeat' refine And.intro (by first | rfl | omega | (simp; done)) ?_
  refine hK1 _ ?_ ?_ ?_ <;> simp only [go_sem, simprocAttr, hL, hX] <;> exact rfl
 simp only [List.drop_succ_cons, List.drop_zero]
 clear hM hL
 have hL := hP
 clear hP
 try simp only [go_sem, simprocAttr, hL, hX]
 repeat' refine And.intro (by first | rfl | omega | (simp; done)) ?_
 refine zE [4] ?_
 clear hK K hL
 refine zR ?_
 try simp only [go_sem, simprocAttr]
 all_goals (rw [← covers_impl])
theorem sat_spec_Unders (w : Word) (l : List Word) (hb : l.length ≤ 1099511627776) : Sat Tryz.prog 197 [.agg w.cells, .sl l.length l.length (rows l)] [] (.bool (unders w l)) [] := by
 have hX := trivial
 refine sat_mk [.tmp 4] 0 30 Tryz.call197 Tryz.func197 Tryz.ntmps197 rfl rfl rfl rfl rfl ?_
 refine zI [0, 1] ?_
 refine zS [1, 2] ?_
 refine zS [1, 2, 8] ?_
 refine zC ?_ ?_
 · intro c1
   refine zS [4] ?_
   refine zR ?_
   try simp only [go_sem, simprocAttr]
   all_goals (rw [unders, c1]; rfl)
 · intro c1
   intro ρ hL
   refine awl_skip ?_
   revert ρ hL
   refine zS [1, 2, 5] ?_
   intro ρ hL
   have e1 := hL
   refine awl_loopH (fun H0 n σ G => ∃ (i : Nat), n = l.length - i ∧ (i ≤ l.length) ∧ ((l.take i).any (fun x => x.is && covers x.key w.key) = false) ∧ (liveE [1, 2] σ ρ ∧ σ 5 = .int .i64 (i : Int)) ∧ G = H0) (fun H0 σ G => (l.any (fun x => x.is && covers x.key w.key) = false) ∧ (True) ∧ G = H0) ((fun (i : Nat) => l.length - i) 0) ?init1 (fun n ρ G hI => ?round1) (fun ρ G hJ => ?after1)
   case init1 => exact ⟨0, rfl, (Nat.zero_le _), (rfl), ⟨liveE_refl _ _, (hL.2.2)⟩, rfl⟩
   case round1 =>
    clear hL
    obtain ⟨i, hn, i1_0, i1_1, hL, hG⟩ := hI
    subst hG
    try simp only [go_sem, simprocAttr, e1, hX] at hL
    revert ρ hL
    refine zS [1, 2, 5, 12] ?_
    refine zC ?_ ?_
    · intro c2
      have hi1 : i < l.length := by omega
      replace hX := And.intro hi1 hX
      intro ρ hL
      refine awl_skip ?_
      refine awl_seq ?_
      refine awl_block fun R1 hw1 hR1 => ?_
      refine awl_seq ?_
      have hX0 := hX
      replace hX := And.intro hi1 hX
      have j2 := hL
      refine awl_regDJ mixed _ rfl (fun H0 σ G => (liveE [1, 2, 5] σ ρ ∧ σ 29 = .bool ((l.getD i noWord).is && covers (l.getD i noWord).key w.key)) ∧ G = H0) (fun K hK => ?inner2) (fun ρ G hJ => ?after2)
      case inner2 =>
       try simp only [go_sem, simprocAttr, hL, hX]
       repeat' refine And.intro (by first | omega | (exact ⟨[0, 0, 3, 7, 15, 31, 63, 63, 255, 511, 1023, 63, 2111, 8191, 16383], by kernel_rfl⟩) | kernel_rfl) ?_
       refine awpDS_split (b := ?b1) 20 (by simp only [go_sem, simprocAttr, hL, hX]; exact rfl) (fun hb1 => ?_) (fun hb1 => ?_)
       ·
        replace hX := And.intro hb1 hX
        try simp only [go_sem, simprocAttr, hL, hX]
        repeat' refine And.intro (by first | omega | (exact ⟨[0, 0, 3, 7, 15, 31, 63, 63, 255, 511, 1023, 63, 2111, 8191, 16383], by kernel_rfl⟩) | kernel_rfl) ?_
        refine zFD [0, 0, 3, 7, 15, 31, 63, 63, 255, 511, 1023, 63, 2111, 8191, 16383] (sat_spec_Covers (l.getD i noWord).key w.key) ?_
        exact hK _ _ ⟨⟨(by simp only [go_sem, simprocAttr, hL, hX, j2]), (by simp only [go_sem, simprocAttr, hL, hX, j2]; first | done | rfl)⟩, rfl⟩
       ·
        replace hX := And.intro hb1 hX
        try simp only [go_sem, simprocAttr, hL, hX]
        repeat' refine And.intro (by first | omega | (exact ⟨[0, 0, 3, 7, 15, 31, 63, 63, 255, 511, 1023, 63, 2111, 8191, 16383], by kernel_rfl⟩) | kernel_rfl) ?_
        exact hK _ _ ⟨⟨(by simp only [go_sem, simprocAttr, hL, hX, j2]), (by simp only [go_sem, simprocAttr, hL, hX, j2]; first | done | rfl)⟩, rfl⟩
      case after2 =>
       clear hL
       obtain ⟨hL, hG⟩ := hJ
       subst hG
       try simp only [go_sem, simprocAttr, j2, hX] at hL
       clear hX
       have hX := hX0
       clear hX0
       revert ρ hL
       refine zC ?_ ?_
       · intro c3
         refine zS [4] ?_
         refine zR ?_
         try simp only [go_sem, simprocAttr]
         all_goals try clear hR1
         all_goals (rw [unders, any_of (d := noWord) hi1 (by simpa using c3), Bool.or_true])
       · intro c3
         intro ρ hL
         refine awl_skip ?_
         refine awl_nil ?_
         refine blk_normal (hR1 _ _ (.mk ?_))
         have w1 : IntKind.i64.wrap ((i : Int) + 1) = ((i + 1 : Nat) : Int) := by rw [wrap64 (by omega)]; omega
         replace hX := And.intro w1 hX
         revert ρ hL
         refine zS [1, 2, 5] ?_
         intro ρ hL
         refine awl_nil ?_
         refine loop_again _ ?meas ⟨i + 1, rfl, (by omega), (by exact any_take_succ (d := noWord) hi1 i1_1 (by rcases c3 with c3 | c3 <;> simp only [c3, Bool.false_and, Bool.and_false])), ⟨(by simp only [go_sem, simprocAttr, hL, hX, e1]), (hL.2.2)⟩, rfl⟩
         case meas => subst hn; omega
    · intro c2
      intro ρ hL
      refine awl_exit ?_
      refine loop_break ?_
      exact ⟨(by rwa [List.take_of_length_le (by omega)] at i1_1), trivial, rfl⟩
   case after1 =>
    clear hL
    obtain ⟨j1_0, hL, hG⟩ := hJ
    subst hG
    refine zA ?_
    intro K hK
    refine zE [4] ?_
    clear hK K hL
    refine zR ?_
    try simp only [go_sem, simprocAttr]
    all_goals try clear hR1
    all_goals (rw [unders, j1_0, c1]; rfl)
theorem sat_impl_Unders_1 (x : Word) (w : Word)  : Sat Tryz.prog 133 [.agg x.cells, .sptr w.cells] [] (.bool (x.is && covers x.key w.key)) [] := by
 have hX := trivial
 refine sat_mk [.tmp 3] 0 13 Tryz.call133 Tryz.func133 Tryz.ntmps133 rfl rfl rfl rfl rfl ?_
 refine zI [0, 1] ?_
 refine zS [1, 2] ?_
 intro ρ hL
 refine zA ?_
 intro K hK
 refine zL [1, 2, 6] ?_
 clear hL
 intro ρ hL
 refine grp_andN (tc := 6) (tv := 11) (td := 12) (v := ?v1) 5 rfl [] hL.2.2 rfl (fun hb K1 hK1 => ?run) (fun hb => ?skip) (fun ρ hP hM => ?_)
 case skip => exact skA (want := true) (b := _) (by rw [hb]; rfl) hL.2.2 rfl
 case run =>
  simp only [List.take_succ_cons, List.take_zero]
  rw [hb] at hL
  try simp only [go_sem, simprocAttr, hL, hX]
  repeat' refine And.intro (by first | rfl | omega | (simp; done)) ?_
  refine zF (sat_impl_Covers _ _) ?_
  refine hK1 _ ?_ ?_ ?_ <;> simp only [go_sem, simprocAttr, hL, hX] <;> exact rfl
 simp only [List.drop_succ_cons, List.drop_zero]
 clear hM hL
 have hL := hP
 clear hP
 try simp only [go_sem, simprocAttr, hL, hX]
 repeat' refine And.intro (by first | rfl | omega | (simp; done)) ?_
 refine zE [3] ?_
 clear hK K hL
 refine zR ?_
 try simp only [go_sem, simprocAttr]
 all_goals (first | done | rfl | (simp; done) | (simp [inR]; done) | (simp_all [inR]; done) | (simp [inR]; grind))
theorem sat_impl_Unders (w : Word) (l : List Word) (hb : l.length ≤ 1099511627776) : Sat Tryz.prog 52 [.agg w.cells, .sl l.length l.length (rows l)] [] (.bool (unders w l)) [] := by
 have hX := trivial
 refine sat_mk [.tmp 4] 0 13 Tryz.call52 Tryz.func52 Tryz.ntmps52 rfl rfl rfl rfl rfl ?_
 refine zI [0, 1] ?_
 refine zS [1, 2] ?_
 intro ρ hL
 refine zA ?_
 intro K hK
 refine zL [1, 2, 8] ?_
 clear hL
 intro ρ hL
 refine grp_orN (tc := 8) (tv := 11) (td := 12) (v := ?v1) 3 rfl [] hL.2.2 rfl (fun hb K1 hK1 => ?run) (fun hb => ?skip) (fun ρ hP hM => ?_)
 case skip => exact skA (want := false) (b := _) (by rw [hb]; rfl) hL.2.2 rfl
 case run =>
  simp only [List.take_succ_cons, List.take_zero]
  rw [hb] at hL
  try simp only [go_sem, simprocAttr, hL, hX]
  repeat' refine And.intro (by first | rfl | omega | (simp; done)) ?_
  refine zF (sat_slices_ContainsFunc_impl_Word_impl_Word l _ [.sptr w.cells] (fun x => x.is && covers x.key w.key) (by omega) (fun _ _ _ => rfl) (fun x => sat_impl_Unders_1 x w)) ?_
  refine hK1 _ ?_ ?_ ?_ <;> simp only [go_sem, simprocAttr, hL, hX] <;> exact rfl
 simp only [List.drop_succ_cons, List.drop_zero]
 clear hM hL
 have hL := hP
 clear hP
 try simp only [go_sem, simprocAttr, hL, hX]
 repeat' refine And.intro (by first | rfl | omega | (simp; done)) ?_
 refine zE [4] ?_
 clear hK K hL
 refine zR ?_
 try simp only [go_sem, simprocAttr]
 all_goals (rfl)
theorem sat_spec_l10Under (ws : List Word) (l : List Word) (hb : ws.length ≤ 1099511627776) (hb2 : l.length ≤ 1099511627776) : Sat Tryz.prog 141 [.sl ws.length ws.length (rows ws), .sl l.length l.length (rows l)] [] (.bool (allUnder ws l)) [] := by
 have hX := trivial
 refine sat_mk [.tmp 4] 0 19 Tryz.call141 Tryz.func141 Tryz.ntmps141 rfl rfl rfl rfl rfl ?_
 refine zI [0, 1] ?_
 refine zS [0, 1] ?_
 refine zS [0, 1, 5] ?_
 intro ρ hL
 have e1 := hL
 refine awl_loopH (fun H0 n σ G => ∃ (i : Nat), n = ws.length - i ∧ (i ≤ ws.length) ∧ ((ws.take i).all (fun w => unders w l) = true) ∧ (liveE [0, 1] σ ρ ∧ σ 5 = .int .i64 (i : Int)) ∧ G = H0) (fun H0 σ G => (ws.all (fun w => unders w l) = true) ∧ (True) ∧ G = H0) ((fun (i : Nat) => ws.length - i) 0) ?init1 (fun n ρ G hI => ?round1) (fun ρ G hJ => ?after1)
 case init1 => exact ⟨0, rfl, (Nat.zero_le _), (rfl), ⟨liveE_refl _ _, (hL.2.2)⟩, rfl⟩
 case round1 =>
  clear hL
  obtain ⟨i, hn, i1_0, i1_1, hL, hG⟩ := hI
  subst hG
  try simp only [go_sem, simprocAttr, e1, hX] at hL
  revert ρ hL
  refine zS [0, 1, 5, 9] ?_
  refine zC ?_ ?_
  · intro c1
    have hi1 : i < ws.length := by omega
    replace hX := And.intro hi1 hX
    intro ρ hL
    refine awl_skip ?_
    refine awl_seq ?_
    refine awl_block fun R1 hw1 hR1 => ?_
    revert ρ hL
    refine zSF [0, 1, 5, 18] (sat_spec_Unders (ws.getD i noWord) l hb2) ?_
    refine zC ?_ ?_
    · intro c2
      refine zS [4] ?_
      refine zR ?_
      try simp only [go_sem, simprocAttr]
      all_goals try clear hR1
      all_goals (rw [allUnder, all_false_of (d := noWord) hi1 (by simpa using c2)])
    · intro c2
      intro ρ hL
      refine awl_skip ?_
      refine awl_nil ?_
      refine blk_normal (hR1 _ _ (.mk ?_))
      have w1 : IntKind.i64.wrap ((i : Int) + 1) = ((i + 1 : Nat) : Int) := by rw [wrap64 (by omega)]; omega
      replace hX := And.intro w1 hX
      revert ρ hL
      refine zS [0, 1, 5] ?_
      intro ρ hL
      refine awl_nil ?_
      refine loop_again _ ?meas ⟨i + 1, rfl, (by omega), (by exact all_take_succ (d := noWord) hi1 i1_1 (by simpa using c2)), ⟨(by simp only [go_sem, simprocAttr, hL, hX, e1]), (hL.2.2)⟩, rfl⟩
      case meas => subst hn; omega
  · intro c1
    intro ρ hL
    refine awl_exit ?_
    refine loop_break ?_
    exact ⟨(by exact all_of_take (by omega) i1_1), trivial, rfl⟩
 case after1 =>
  clear hL
  obtain ⟨j1_0, hL, hG⟩ := hJ
  subst hG
  refine zA ?_
  intro K hK
  refine zE [4] ?_
  clear hK K hL
  refine zR ?_
  try simp only [go_sem, simprocAttr]
  all_goals try clear hR1
  all_goals (rw [allUnder, j1_0])
theorem sat_impl_allUnder_1 (x : Word) (l : List Word) (hb2 : l.length ≤ 1099511627776) : Sat Tryz.prog 196 [.agg x.cells, .sptr [.sl l.length l.length (rows l)]] [] (.bool (!unders x l)) [] := by
 have hX := trivial
 refine sat_mk [.tmp 3] 0 8 Tryz.call196 Tryz.func196 Tryz.ntmps196 rfl rfl rfl rfl rfl ?_
 refine zI [0, 1] ?_
 refine zS [1, 2] ?_
 refine zSF [3] (sat_impl_Unders x l hb2) ?_
 refine zR ?_
 try simp only [go_sem, simprocAttr]
 all_goals (first | done | rfl | (simp; done) | (simp [inR]; done) | (simp_all [inR]; done) | (simp [inR]; grind))
theorem sat_impl_allUnder (ws : List Word) (l : List Word) (hb : ws.length ≤ 1099511627776) (hb2 : l.length ≤ 1099511627776) : Sat Tryz.prog 138 [.sl ws.length ws.length (rows ws), .sl l.length l.length (rows l)] [] (.bool (allUnder ws l)) [] := by
 have hX := trivial
 refine sat_mk [.tmp 4] 0 9 Tryz.call138 Tryz.func138 Tryz.ntmps138 rfl rfl rfl rfl rfl ?_
 refine zI [0, 1] ?_
 refine zS [0, 3] ?_
 refine zSF [4] (sat_slices_ContainsFunc_impl_Word_impl_Word ws _ [.sptr [.sl l.length l.length (rows l)]] (fun w => !unders w l) hb (fun _ _ _ => by simp only [List.map_cons, List.map_nil, bor_sptr, bor_sl, bor_rows]) (fun x => sat_impl_allUnder_1 x l hb2)) ?_
 refine zR ?_
 try simp only [go_sem, simprocAttr]
 all_goals (rw [allUnder, List.all_eq_not_any_not])
end Go.Proofs.YtdifphcihhbjlaaGreat.AM
