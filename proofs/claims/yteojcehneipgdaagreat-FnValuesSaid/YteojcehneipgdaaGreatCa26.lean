/- New guesses. No conditions but those each theorem bears. -/
import Derived.Test.YteojcehneipgdaaGreatFa
import Derived.Test.YteojcehneipgdaaGreatM5
import Derived.Test.YteojcehneipgdaaGreatCa3
set_option linter.unusedSimpArgs false
set_option linter.unusedVariables false
namespace Go.Proofs.YteojcehneipgdaaGreat.AM
open Go
set_option maxHeartbeats 8000000
set_option maxRecDepth 100000

theorem sat_math_bits_Mul64   : Sat Tryz.prog 222 [.int .u64 1, .int .u64 48] [] (.tuple [.int .u64 0, .int .u64 48]) [] := by
 have hX := trivial
 refine sat_mk [.tmp 4, .tmp 5] 0 51 Tryz.call222 Tryz.func222 Tryz.ntmps222 rfl rfl rfl rfl rfl ?_
 refine zI [0, 1] ?_
 refine zS [0, 1] ?_
 refine zS [0, 1, 6] ?_
 refine zS [0, 1, 6, 7] ?_
 refine zS [0, 1, 6, 7, 8] ?_
 refine zS [0, 1, 6, 7, 8, 9] ?_
 refine zS [0, 1, 6, 7, 8, 9, 10] ?_
 refine zS [0, 1, 6, 7, 9, 11] ?_
 refine zS [0, 1, 6, 7, 9, 11, 12] ?_
 refine zS [0, 1, 6, 7, 9, 12, 13] ?_
 refine zS [0, 1, 7, 9, 12, 13] ?_
 refine zS [0, 1, 4] ?_
 refine zS [4, 5] ?_
 refine zR ?_
 try simp only [go_sem, simprocAttr]
 all_goals (kernel_rfl)
theorem sat_math_bits_Mul   : Sat Tryz.prog 207 [.int .u64 1, .int .u64 48] [] (.tuple [.int .u64 0, .int .u64 48]) [] := by
 have hX := trivial
 refine sat_mk [.tmp 4, .tmp 5] 0 30 Tryz.call207 Tryz.func207 Tryz.ntmps207 rfl rfl rfl rfl rfl ?_
 refine zI [0, 1] ?_
 refine zS [0, 1] ?_
 intro ρ hL
 refine awl_seq ?_
 refine awl_cond rfl (fun c1 => ?_) (fun c1 => ?_)
 ·
  first | done | cases c1 | (simp at c1)
 ·
  refine awl_skip ?_
  revert ρ hL
  refine zSF [8, 9] (sat_math_bits_Mul64) ?_
  refine zS [4, 5] ?_
  refine zR ?_
  try simp only [go_sem, simprocAttr]
  all_goals (rfl)
theorem sat_slices_Repeat_int_int   : Sat Tryz.prog 176 [.sl 1 1 [.int .i64 (-1)], .int .i64 48] [] (.slice 0 0 48 0) [⟨1, ints guessNew, true, false⟩] := by
 have hX := trivial
 refine sat_mk [.tmp 4] 0 48 Tryz.call176 Tryz.func176 Tryz.ntmps176 rfl rfl rfl rfl rfl ?_
 refine zI [0, 1] ?_
 refine zS [0, 1] ?_
 refine zS [0, 1, 10] ?_
 refine zQ ?_ ?_
 · intro c1
   try simp only [cnd] at c1
   first | done | omega | (simp at c1)
 · intro c1
   try simp only [cnd] at c1
   intro ρ hL
   refine awl_skip ?_
   have hX0 := hX
   replace hX := And.intro wu1 (And.intro wu48 hX)
   revert ρ hL
   refine zSF [0, 5, 6] (sat_math_bits_Mul) ?_
   clear hX
   have hX := hX0
   clear hX0
   intro ρ hL
   refine zA ?_
   intro K hK
   refine zL [0, 6, 23] ?_
   clear hL
   intro ρ hL
   refine grp_orN (tc := 23) (tv := 25) (td := 26) (v := ?v1) 2 rfl [0, 6] hL.2.2 rfl (fun hb K1 hK1 => ?run) (fun hb => ?skip) (fun ρ hP hM => ?_)
   case skip => exact skA (want := false) (b := _) (by rw [hb]; rfl) hL.2.2 rfl
   case run =>
    simp only [List.take_succ_cons, List.take_zero]
    rw [hb] at hL
    try simp only [go_sem, simprocAttr, hL, hX]
    repeat' refine And.intro (by first | rfl | omega | (simp; done)) ?_
    refine hK1 _ ?_ ?_ ?_ <;> simp only [go_sem, simprocAttr, hL, hX] <;> exact rfl
   simp only [List.drop_succ_cons, List.drop_zero]
   try simp only [go_sem, simprocAttr, hL, hX] at hM
   replace hL := And.intro hP hM
   clear hP hM
   try simp only [go_sem, simprocAttr, hL, hX]
   repeat' refine And.intro (by first | rfl | omega | (simp; done)) ?_
   refine zE [0, 6, 26] ?_
   clear hK K hL
   refine zQ ?_ ?_
   · intro c2
     try simp only [cnd] at c2
     first | done | omega | (simp at c2; done) | (simp at c2; omega)
   · intro c2
     try simp only [cnd] at c2
     intro ρ hL
     refine awl_skip ?_
     have hX0 := hX
     replace hX := And.intro wi48 hX
     revert ρ hL
     refine zS [0, 7] ?_
     clear hX
     have hX := hX0
     clear hX0
     intro ρ hL
     repeat refine awl_seq ?_
     refine awl_regS _ rfl fun K hK => ?_
     try simp only [go_sem, simprocAttr, hL, hX, gfill_one, wi1]
     repeat' refine And.intro (by first | rfl | omega | (simp; done)) ?_
     refine hK _ _ (.mk (awl_live' [7, 8] fun ρ hM => ?_))
     try simp only [go_sem, simprocAttr, hL, hX, gfill_one, wi1] at hM
     clear hK K hL
     revert ρ hM
     intro ρ hL
     refine awl_seq ?_
     have e1 := hL
     refine awl_loopH (fun H0 n σ G => ∃ (m : Nat), n = 48 - m ∧ (1 ≤ m) ∧ (m ≤ 48) ∧ (liveE [7] σ ρ ∧ σ 8 = .int .i64 (m : Int)) ∧ G = [⟨1, ints (gfill m), true, false⟩]) (fun H0 σ G => (liveE [7] σ ρ) ∧ G = [⟨1, ints guessNew, true, false⟩]) ((fun (m : Nat) => 48 - m) 1) ?init1 (fun n ρ G hI => ?round1) (fun ρ G hJ => ?after1)
     case init1 => exact ⟨1, rfl, (Nat.le_refl _), (by decide), ⟨liveE_refl _ _, (hL.2)⟩, rfl⟩
     case round1 =>
      clear hL
      obtain ⟨m, hn, i1_0, i1_1, hL, hG⟩ := hI
      subst hG
      try simp only [go_sem, simprocAttr, e1, hX] at hL
      revert ρ hL
      refine zS [7, 8, 37] ?_
      refine zC ?_ ?_
      · intro c3
        intro ρ hL
        refine awl_skip ?_
        refine awl_block fun R1 hw1 hR1 => ?_
        have hm48 : m ≤ 48 := by omega
        have ha9 : (0 : Int) ≤ (m : Int) := by omega
        have hb9 : (m : Int) ≤ 48 := by omega
        have hmm : m + (48 - m) ≤ 48 := by omega
        have hfc := gfill_copy hm48
        have hfl := ints_lenF hm48
        have hw9 : IntKind.i64.wrap ((m : Int) + ((Nat.min m (48 - m) : Nat) : Int)) = ((m + Nat.min m (48 - m) : Nat) : Int) := by rw [show Nat.min m (48 - m) = min m (48 - m) from rfl, wrap64 (by omega)]; omega
        repeat refine awl_seq ?_
        refine awl_regD mixed _ rfl fun K hK => ?_
        try simp only [go_sem, simprocAttr, hL, hX, ha9, hb9, hm48, hmm, hfc, hfl, hw9, Nat.sub_zero, Nat.sub_self, Nat.max_zero, Nat.zero_max, Nat.max_self, Option.isSome_none, Option.isNone_some, Option.isNone_none]
        repeat' refine And.intro (by first | omega | (exact ⟨[0, 0, 0, 6, 0, 0, 48, 126, 255, 511], by kernel_rfl⟩) | kernel_rfl) ?_
        refine hK _ _ (.mk (awl_live' [7, 8] fun ρ hM => ?_))
        try simp only [go_sem, simprocAttr, hL, hX, ha9, hb9, hm48, hmm, hfc, hfl, hw9, Nat.sub_zero, Nat.sub_self, Nat.max_zero, Nat.zero_max, Nat.max_self, Option.isSome_none, Option.isNone_some, Option.isNone_none] at hM
        clear hK K hL
        revert ρ hM
        intro ρ hL
        refine awl_nil ?_
        refine blk_normal (hR1 _ _ (.mk ?_))
        refine awl_nil ?_
        refine loop_again _ ?meas ⟨(m + Nat.min m (48 - m)), rfl, (by omega), (by rw [show Nat.min m (48 - m) = min m (48 - m) from rfl]; omega), ⟨(by simp only [go_sem, simprocAttr, hL, hX, e1]), (hL.2)⟩, rfl⟩
        case meas => subst hn; rw [show Nat.min m (48 - m) = min m (48 - m) from rfl]; omega
      · intro c3
        intro ρ hL
        refine awl_exit ?_
        refine loop_break ?_
        exact ⟨(by simp only [go_sem, simprocAttr, hL, hX, e1]), by rw [show m = 48 by omega, gfill_end]⟩
     case after1 =>
      clear hL
      obtain ⟨hL, hG⟩ := hJ
      subst hG
      try simp only [go_sem, simprocAttr, e1, hX] at hL
      revert ρ hL
      refine zS [4] ?_
      intro ρ hL
      refine awl_ret ?_
      have h4 := hL
      refine ret_wk (Wk.norm [] (RefE.refl.upd h4 (Ref.cap _ _ _ _ 0 (Nat.zero_le _)))) ?_
      refine retK [0] [0] rfl (by simp only [go_sem, simprocAttr, hL, hX]; exact rfl) (by decide) (by first | rfl | (simp only [go_sem, simprocAttr, hL, hX]; first | done | rfl)) (by first | rfl | (simp only [go_sem, simprocAttr, hL, hX]; first | done | rfl)) ?_ ?_
      all_goals try simp only [go_sem, simprocAttr, hL, hX]
      all_goals try clear hR1
      all_goals (first | done | rfl | (simp; done) | (simp [inR]; done) | (simp_all [inR]; done) | (simp [inR]; grind))
theorem sat_impl_GuessNew   : Sat Tryz.prog 121 [] [] (.slice 0 0 48 0) [⟨1, ints guessNew, true, false⟩] := by
 have hX := trivial
 refine sat_mk [.tmp 0] 0 3 Tryz.call121 Tryz.func121 Tryz.ntmps121 rfl rfl rfl rfl rfl ?_
 refine awl_live' [] fun ρ hL => ?_
 clear hL
 have hL := trivial
 refine zA ?_
 intro K hK
 refine hK _ _ (.mk (awl_live' [] fun ρ hM => ?_))
 clear hK K hL hM
 have hM := trivial
 revert ρ hM
 intro ρ hL
 refine zA ?_
 intro K hK
 refine zF (sat_slices_Repeat_int_int) ?_
 refine zE [0] ?_
 clear hK K hL
 refine zK [1] [1] ?_ ?_
 all_goals try simp only [go_sem, simprocAttr, hX]
 all_goals (first | done | rfl | (simp; done) | (simp [inR]; done) | (simp_all [inR]; done) | (simp [inR]; grind))
section
attribute [local go_sem] ints_takeR ints_lenR List.length_replicate
theorem sat_spec_GuessNew   : Sat Tryz.prog 174 [] [] (.slice 0 0 48 0) [⟨1, ints guessNew, true, false⟩] := by
 have hX := trivial
 refine sat_mk [.tmp 0] 0 12 Tryz.call174 Tryz.func174 Tryz.ntmps174 rfl rfl rfl rfl rfl ?_
 refine awl_live' [] fun ρ hL => ?_
 clear hL
 have hL := trivial
 refine zA ?_
 intro K hK
 refine hK _ _ (.mk (awl_live' [] fun ρ hM => ?_))
 clear hK K hL hM
 have hM := trivial
 revert ρ hM
 intro ρ hL
 refine zA ?_
 intro K hK
 refine zE [1] ?_
 clear hK K hL
 intro ρ hL
 refine zA ?_
 intro K hK
 have h1 := hL
 refine hK _ _ ⟨_, _, (Wk.norm [1] (RefE.refl.upd (t := 1) (by simp only [go_sem, simprocAttr, h1]; first | done | rfl) (Ref.esl 0 ⟨Nat.le_refl _, Nat.lt_succ_self _⟩))), awl_live' [1, 2] fun ρ hM => ?_⟩
 try simp only [go_sem, simprocAttr, hL, hX] at hM
 clear hK K h1 hL
 try simp only [go_sem, simprocAttr]
 revert ρ hM
 intro ρ hL
 have e1 := hL
 refine awl_loopH (fun H0 n σ G => ∃ (i : Nat), n = 48 - i ∧ (i ≤ 48) ∧ (σ 1 = .slice 0 0 i 0 ∧ σ 2 = .int .i64 (i : Int)) ∧ G = [⟨1, ints (List.replicate i (-1)), true, false⟩]) (fun H0 σ G => (σ 1 = .slice 0 0 48 0) ∧ G = [⟨1, ints guessNew, true, false⟩]) ((fun (i : Nat) => 48 - i) 0) ?init1 (fun n ρ G hI => ?round1) (fun ρ G hJ => ?after1)
 case init1 => exact ⟨0, rfl, (Nat.zero_le _), ⟨(hL.1), (hL.2)⟩, rfl⟩
 case round1 =>
  clear hL
  obtain ⟨i, hn, i1_0, hL, hG⟩ := hI
  subst hG
  revert ρ hL
  refine zS [1, 2, 5] ?_
  refine zC ?_ ?_
  · intro c1
    have hi1 : i < 48 := by omega
    replace hX := And.intro hi1 hX
    intro ρ hL
    refine awl_skip ?_
    refine awl_seq ?_
    refine awl_block fun R1 hw1 hR1 => ?_
    revert ρ hL
    refine zS [1, 2] ?_
    intro ρ hL
    refine awl_nil ?_
    refine blk_normal (hR1 _ _ (.mk ?_))
    have w1 : IntKind.i64.wrap ((i : Int) + 1) = ((i + 1 : Nat) : Int) := by rw [wrap64 (by omega)]; omega
    replace hX := And.intro w1 hX
    revert ρ hL
    refine zS [1, 2] ?_
    intro ρ hL
    refine awl_nil ?_
    refine loop_againW (Wk.keep [2] rfl) _ ?meas ⟨i + 1, rfl, (by omega), ⟨(by simp only [go_sem, simprocAttr, hL, hX, e1]; first | done | rfl), (by simp only [go_sem, simprocAttr, hL, hX, e1]; first | done | rfl)⟩, (by simp only [go_sem, simprocAttr, hL, hX, e1]; rw [rep_snoc])⟩
    case meas => subst hn; omega
  · intro c1
    intro ρ hL
    refine awl_exit ?_
    refine loop_break ?_
    have h1 := hL.1
    exact ⟨(by rw [h1, show i = 48 by omega]), by rw [show i = 48 by omega]; rfl⟩
 case after1 =>
  clear hL
  obtain ⟨hL, hG⟩ := hJ
  subst hG
  revert ρ hL
  refine zS [0] ?_
  refine zK [0] [0] ?_ ?_
  all_goals try simp only [go_sem, simprocAttr, hX]
  all_goals try clear hR1
  all_goals (first | done | rfl | (simp; done) | (simp [inR]; done) | (simp_all [inR]; done) | (simp [inR]; grind))
end
end Go.Proofs.YteojcehneipgdaaGreat.AM
