/- Are two states alike. No conditions but those each theorem bears. -/
import Derived.Test.YtgpjgljgplngpaaGreatDoorFa
import Derived.Test.YtgpjgljgplngpaaGreatDoorM4
import Derived.Test.YtgpjgljgplngpaaGreatDoorCb1
set_option linter.unusedSimpArgs false
set_option linter.unusedVariables false
namespace Go.Proofs.YtgpjgljgplngpaaGreatDoor.AM
open Go
set_option maxHeartbeats 8000000
set_option maxRecDepth 100000
section
attribute [local go_sem] word_deq
theorem sat_spec_Alike (s : Stt) (t : Stt) (hf : s.fit) (hf3 : t.fit) : Sat Tryz.prog 106 [.agg s.cells, .agg t.cells] [] (.bool (alike s t)) [] := by
 have hX := trivial
 refine sat_mk [.tmp 4] 0 74 Tryz.call106 Tryz.func106 Tryz.ntmps106 rfl rfl rfl rfl rfl ?_
 refine zI [0, 1] ?_
 have hg1 := hf.2.2
 have hg2 := hf3.2.2
 refine zS [2, 3] ?_
 refine zS [2, 3, 5] ?_
 intro ρ hL
 have e1 := hL
 refine awl_loopH (fun H0 n σ G => ∃ (i : Nat), n = (min s.mem.gone.length t.mem.gone.length) - i ∧ (i ≤ (min s.mem.gone.length t.mem.gone.length)) ∧ (s.mem.gone.take i = t.mem.gone.take i) ∧ (liveE [2, 3] σ ρ ∧ σ 5 = .int .i64 (i : Int)) ∧ G = H0) (fun H0 σ G => (s.mem.gone.length = t.mem.gone.length → s.mem.gone = t.mem.gone) ∧ (liveE [2, 3] σ ρ) ∧ G = H0) ((fun (i : Nat) => (min s.mem.gone.length t.mem.gone.length) - i) 0) ?init1 (fun n ρ G hI => ?round1) (fun ρ G hJ => ?after1)
 case init1 => exact ⟨0, rfl, (Nat.zero_le _), (by simp), ⟨liveE_refl _ _, (hL.2.2)⟩, rfl⟩
 case round1 =>
  clear hL
  obtain ⟨i, hn, i1_0, i1_1, hL, hG⟩ := hI
  subst hG
  try simp only [go_sem, simprocAttr, e1, hX] at hL
  refine zA ?_
  intro K hK
  refine zL [2, 3, 5, 12] ?_
  clear hL
  intro ρ hL
  refine grp_andN (v := ?v1) 6 rfl [2, 3, 5] hL.2.2.2 rfl (fun hb K1 hK1 => ?run) (fun hb => skA (want := true) (b := _) (by rw [hb]; rfl) hL.2.2.2 rfl) (fun ρ hP hM => ?_)
  case run => exact zR1
  refine zPp ?_
  clear hL hP hM
  intro hL
  refine zE [2, 3, 5, 19] ?_
  clear hK K hL
  refine zC ?_ ?_
  ·intro c1
   have hi1 : i < (min s.mem.gone.length t.mem.gone.length) := by omega
   replace hX := And.intro hi1 hX
   intro ρ hL
   refine awl_skip (awl_seq (awl_block fun R1 hw1 hR1 => ?_))
   have hx : i < s.mem.gone.length := by omega
   have hy : i < t.mem.gone.length := by omega
   revert ρ hL
   refine zDX [0, 1, 3, 0, 15, 31, 0, 64, 192, 0, 960, 1984, 4095] [2, 3, 5, 34] (And.intro hx (And.intro hy hX)) ?_
   refine zC ?_ ?_
   ·intro c2
    refine zS [4] ?_
    refine zR ?_
    try simp only [go_sem, simprocAttr]
    all_goals ((try clear hR1); rw [eq_comm, AV.bool.injEq]; simp only [alike, Bool.and_eq_false_iff, decide_eq_false_iff_not]; refine Or.inl (Or.inr fun h => ?_); rw [h] at c2; simp at c2)
   ·intro c2 ρ hL
    refine awl_skip (awl_nil (blk_normal (hR1 _ _ (.mk ?_))))
    have w1 : IntKind.i64.wrap ((i : Int) + 1) = ((i + 1 : Nat) : Int) := by rw [wrap64 (by omega)]; omega
    replace hX := And.intro w1 hX
    revert ρ hL
    refine zS [2, 3, 5] ?_
    intro ρ hL
    refine awl_nil ?_
    refine loop_again _ ?meas ⟨i + 1, rfl, (by omega), (by exact take_succ_eq (d := false) hx hy i1_1 (by simpa using c2)), ⟨(by simp only [go_sem, simprocAttr, hL, hX, e1]), (hL.2.2)⟩, rfl⟩
    case meas => subst hn; omega
  ·intro c1 ρ hL
   refine awl_exit (loop_break ?_)
   exact ⟨(by exact fun hl => eq_of_take (i := i) (by omega) (by omega) i1_1), (by simp only [go_sem, simprocAttr, hL, hX, e1]), rfl⟩
 case after1 =>
  clear hL
  obtain ⟨j1_0, hL, hG⟩ := hJ
  subst hG
  try simp only [go_sem, simprocAttr, e1, hX] at hL
  refine zA ?_
  intro K hK
  refine zL [2, 3, 44] ?_
  clear hL
  intro ρ hL
  refine grp_andN (v := ?v2) 5 rfl [2, 3] hL.2.2 rfl (fun hb K1 hK1 => ?run) (fun hb => skA (want := true) (b := _) (by rw [hb]; rfl) hL.2.2 rfl) (fun ρ hP hM => ?_)
  case run =>
   refine zRn ?_
   intro hL
   refine zF (sat_spec_l17Words s.regs t.regs (Nat.le_trans hf.1 (by decide))) ?_
   exact zK1
  refine zPp ?_
  clear hL hP hM
  intro hL
  refine zL [2, 3, 51] ?_
  clear hL
  intro ρ hL
  refine grp_andN (v := ?v3) 5 rfl [2, 3] hL.2.2 rfl (fun hb K1 hK1 => ?run) (fun hb => skA (want := true) (b := _) (by rw [hb]; rfl) hL.2.2 rfl) (fun ρ hP hM => ?_)
  case run => exact zR1
  refine zPp ?_
  clear hL hP hM
  intro hL
  refine zL [2, 3, 58] ?_
  clear hL
  intro ρ hL
  refine grp_andN (v := ?v4) 5 rfl [2, 3] hL.2.2 rfl (fun hb K1 hK1 => ?run) (fun hb => skA (want := true) (b := _) (by rw [hb]; rfl) hL.2.2 rfl) (fun ρ hP hM => ?_)
  case run => exact zR1
  refine zPp ?_
  clear hL hP hM
  intro hL
  refine zL [2, 3, 65] ?_
  clear hL
  intro ρ hL
  refine grp_andN (v := ?v5) 7 rfl [] hL.2.2 rfl (fun hb K1 hK1 => ?run) (fun hb => skA (want := true) (b := _) (by rw [hb]; rfl) hL.2.2 rfl) (fun ρ hP hM => ?_)
  case run =>
   refine zRn ?_
   intro hL
   refine zF (sat_spec_l17Words s.mem.words t.mem.words (Nat.le_trans hf.2.1 (by decide))) ?_
   exact zK1
  simp only [List.drop_succ_cons, List.drop_zero]
  clear hM hL
  have hL := hP
  clear hP
  try simp only [go_sem, simprocAttr, hL, hX]
  repeat' refine And.intro (by first | rfl | omega | (simp; done)) ?_
  refine zE [4] ?_
  clear hK K hL
  refine zR ?_
  try simp only [go_sem, simprocAttr]
  all_goals ((try clear hR1); rw [AV.bool.injEq, Bool.eq_iff_iff]; simp only [alike, Bool.and_eq_true, decide_eq_true_eq]; have hj := j1_0; exact ⟨fun ⟨⟨⟨⟨a, b⟩, c⟩, d⟩, e⟩ => ⟨⟨⟨⟨b, c⟩, e⟩, hj (by omega)⟩, d⟩, fun ⟨⟨⟨⟨a, b⟩, c⟩, d⟩, e⟩ => ⟨⟨⟨⟨by rw [d], a⟩, b⟩, e⟩, c⟩⟩)
end
section
attribute [local go_sem] word_deq
theorem sat_impl_Alike (s : Stt) (t : Stt) (hf : s.fit) : Sat Tryz.prog 18 [.agg s.cells, .agg t.cells] [] (.bool (alike s t)) [] := by
 have hX := trivial
 refine sat_mk [.tmp 4] 0 42 Tryz.call18 Tryz.func18 Tryz.ntmps18 rfl rfl rfl rfl rfl ?_
 refine zI [0, 1] ?_
 refine zS [2, 3] ?_
 intro ρ hL
 refine zA ?_
 intro K hK
 refine zF (sat_slices_Equal_impl_Word_impl_Word s.regs t.regs (Nat.le_trans hf.1 (by decide))) ?_
 refine zL [2, 3, 10] ?_
 clear hL
 intro ρ hL
 refine grp_andN (v := ?v1) 5 rfl [2, 3] hL.2.2 rfl (fun hb K1 hK1 => ?run) (fun hb => skA (want := true) (b := _) (by rw [hb]; rfl) hL.2.2 rfl) (fun ρ hP hM => ?_)
 case run => exact zR1
 refine zPp ?_
 clear hL hP hM
 intro hL
 refine zL [2, 3, 17] ?_
 clear hL
 intro ρ hL
 refine grp_andN (v := ?v2) 7 rfl [2, 3] hL.2.2 rfl (fun hb K1 hK1 => ?run) (fun hb => skA (want := true) (b := _) (by rw [hb]; rfl) hL.2.2 rfl) (fun ρ hP hM => ?_)
 case run =>
  refine zRn ?_
  intro hL
  refine zF (sat_slices_Equal_impl_Word_impl_Word s.mem.words t.mem.words (Nat.le_trans hf.2.1 (by decide))) ?_
  exact zK1
 refine zPp ?_
 clear hL hP hM
 intro hL
 refine zL [2, 3, 26] ?_
 clear hL
 intro ρ hL
 refine grp_andN (v := ?v3) 7 rfl [2, 3] hL.2.2 rfl (fun hb K1 hK1 => ?run) (fun hb => skA (want := true) (b := _) (by rw [hb]; rfl) hL.2.2 rfl) (fun ρ hP hM => ?_)
 case run =>
  refine zRn ?_
  intro hL
  refine zF (sat_slices_Equal_bool_bool s.mem.gone t.mem.gone (Nat.le_trans hf.2.2 (by decide))) ?_
  exact zK1
 refine zPp ?_
 clear hL hP hM
 intro hL
 refine zL [2, 3, 35] ?_
 clear hL
 intro ρ hL
 refine grp_andN (v := ?v4) 5 rfl [] hL.2.2 rfl (fun hb K1 hK1 => ?run) (fun hb => skA (want := true) (b := _) (by rw [hb]; rfl) hL.2.2 rfl) (fun ρ hP hM => ?_)
 case run => exact zR1
 simp only [List.drop_succ_cons, List.drop_zero]
 clear hM hL
 have hL := hP
 clear hP
 try simp only [go_sem, simprocAttr, hL, hX]
 repeat' refine And.intro (by first | rfl | omega | (simp; done)) ?_
 refine zE [4] ?_
 clear hK K hL
 refine zR ?_
 try simp only [go_sem, simprocAttr]
 all_goals (rfl)
end
end Go.Proofs.YtgpjgljgplngpaaGreatDoor.AM
