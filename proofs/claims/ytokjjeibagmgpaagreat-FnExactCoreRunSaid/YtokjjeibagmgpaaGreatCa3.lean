/- Words, and what is learnt. No conditions but those each theorem bears. -/
import Derived.Test.YtokjjeibagmgpaaGreatFa
import Derived.Test.YtokjjeibagmgpaaGreatM4
import Derived.Test.YtokjjeibagmgpaaGreatM3
import Derived.Test.YtokjjeibagmgpaaGreatCa2
set_option linter.unusedSimpArgs false
set_option linter.unusedVariables false
namespace Go.Proofs.YtokjjeibagmgpaaGreat.AM
open Go
set_option maxHeartbeats 8000000
set_option maxRecDepth 100000

theorem sat_laws_toKey (k : Key)  : Sat Tryz.prog 119 [.agg k.cells] [] (.agg k.cells) [] := by
 have hX := trivial
 refine sat_mk [.cell 2 36] 0 17 Tryz.call119 Tryz.func119 Tryz.ntmps119 rfl rfl rfl rfl rfl ?_
 refine zI [0] ?_
 refine zS [1, 2] ?_
 refine zS [1, 2, 3] ?_
 refine zS [1, 2, 3] ?_
 refine zS [1, 2, 3] ?_
 refine zS [1, 2, 3] ?_
 refine zS [2, 3] ?_
 refine zS [2] ?_
 refine zR ?_
 try simp only [go_sem, simprocAttr]
 all_goals (first | done | rfl | (simp; done) | (simp [inR]; done) | (simp_all [inR]; done) | (simp [inR]; grind))
theorem sat_laws_toWord (w : Word)  : Sat Tryz.prog 61 [.agg w.cells] [] (.agg w.cells) [] := by
 have hX := trivial
 refine sat_mk [.cell 2 38] 0 15 Tryz.call61 Tryz.func61 Tryz.ntmps61 rfl rfl rfl rfl rfl ?_
 refine zI [0] ?_
 refine zS [1, 2] ?_
 refine zS [1, 2, 3] ?_
 refine zS [1, 2, 3] ?_
 refine zS [1, 2, 3] ?_
 refine zSF [2, 3] (sat_laws_toKey _) ?_
 refine zS [2] ?_
 refine zR ?_
 try simp only [go_sem, simprocAttr]
 all_goals (first | done | rfl | (simp; done) | (simp [inR]; done) | (simp_all [inR]; done) | (simp [inR]; grind))
theorem sat_spec_Plain (n : Int)  : Sat Tryz.prog 213 [.int .i64 n] [] (.agg (plain n).cells) [] := by
 have hX := trivial
 refine sat_mk [.cell 2 38] 0 6 Tryz.call213 Tryz.func213 Tryz.ntmps213 rfl rfl rfl rfl rfl ?_
 refine zI [0] ?_
 refine zS [0, 2] ?_
 refine zS [2] ?_
 refine zR ?_
 try simp only [go_sem, simprocAttr]
 all_goals (first | done | rfl | (simp; done) | (simp [inR]; done) | (simp_all [inR]; done) | (simp [inR]; grind))
theorem sat_impl_Plain (n : Int)  : Sat Tryz.prog 222 [.int .i64 n] [] (.agg (plain n).cells) [] := by
 have hX := trivial
 refine sat_mk [.cell 2 38] 0 6 Tryz.call222 Tryz.func222 Tryz.ntmps222 rfl rfl rfl rfl rfl ?_
 refine zI [0] ?_
 refine zS [0, 2] ?_
 refine zS [2] ?_
 refine zR ?_
 try simp only [go_sem, simprocAttr]
 all_goals (first | done | rfl | (simp; done) | (simp [inR]; done) | (simp_all [inR]; done) | (simp [inR]; grind))
theorem sat_impl_Bare (w : Word)  : Sat Tryz.prog 214 [.agg w.cells] [] (.agg (plain w.n).cells) [] := by
 have hX := trivial
 refine sat_mk [.cell 2 38] 0 6 Tryz.call214 Tryz.func214 Tryz.ntmps214 rfl rfl rfl rfl rfl ?_
 refine zI [0] ?_
 refine zS [1, 2] ?_
 refine zSF [2] (sat_impl_Plain _) ?_
 refine zR ?_
 try simp only [go_sem, simprocAttr]
 all_goals (first | done | rfl | (simp; done) | (simp [inR]; done) | (simp_all [inR]; done) | (simp [inR]; grind))
theorem sat_slices_Clone_int_int_N   : Sat Tryz.prog 159 [.nilsl] [] .nilsl [] := by
 have hX := trivial
 refine sat_mk [.tmp 2] 0 8 Tryz.call159 Tryz.func159 Tryz.ntmps159 rfl rfl rfl rfl rfl ?_
 refine zI [0] ?_
 refine zS [0] ?_
 refine zS [0, 4] ?_
 refine zQ ?_ ?_
 · intro c1
   try simp only [cnd] at c1
   refine zS [2] ?_
   refine zR ?_
   try simp only [go_sem, simprocAttr]
   all_goals (first | done | rfl | (simp; done) | (simp [inR]; done) | (simp_all [inR]; done) | (simp [inR]; grind))
 · intro c1
   try simp only [cnd] at c1
   simp at c1
theorem sat_slices_Clone_int_int_S (xs : List Int) (c : Nat) (hb : xs.length ≤ 1099511627776) : Sat Tryz.prog 159 [.nnsl xs.length c (ints xs)] [] (.slice 0 0 xs.length 0) [⟨1, ints xs, true, false⟩] := by
 have hX := trivial
 refine sat_mk [.tmp 2] 0 8 Tryz.call159 Tryz.func159 Tryz.ntmps159 rfl rfl rfl rfl rfl ?_
 refine zI [0] ?_
 refine zS [0] ?_
 refine zS [0, 4] ?_
 refine zQ ?_ ?_
 · intro c1
   try simp only [cnd] at c1
   simp at c1
 · intro c1
   try simp only [cnd] at c1
   intro ρ hL
   refine awl_skip ?_
   revert ρ hL
   refine zS [2] ?_
   refine zK [0] [0] ?_ ?_
   all_goals try simp only [go_sem, simprocAttr, hX]
   all_goals (first | done | rfl | (simp; done) | (simp [inR]; done) | (simp_all [inR]; done) | (simp [inR]; grind))
theorem sat_slices_Clone_int_int (xs : List Int) (c : Nat) (hb : xs.length ≤ 1099511627776) : Sat Tryz.prog 159 [.sl xs.length c (ints xs)] [] (.slice 0 0 xs.length 0) [⟨1, ints xs, true, false⟩] := by
  refine sat_sl (fun h0 _ => ?_) (sat_slices_Clone_int_int_S xs c hb)
  obtain rfl : xs = [] := List.eq_nil_of_length_eq_zero h0
  exact sat_nil_back sat_slices_Clone_int_int_N
theorem sat_spec_Learn (xs : List Int) (w : Word) (v : Word) (c : Nat) (hb : xs.length ≤ 1099511627776) : Sat Tryz.prog 168 [.sl xs.length c (ints xs), .agg w.cells, .agg v.cells] [] (.slice 0 0 xs.length 0) [⟨1, ints (learn xs w v), true, false⟩] := by
 have hX := trivial
 refine sat_mk [.tmp 6] 0 26 Tryz.call168 Tryz.func168 Tryz.ntmps168 rfl rfl rfl rfl rfl ?_
 refine zI [0, 1, 2] ?_
 refine zS [0, 4, 5] ?_
 refine zS [0, 4, 5, 7] ?_
 have w0 : IntKind.i64.wrap ((xs.length : Int) - 1) = (xs.length : Int) - 1 := wrap64 (by omega)
 have hX0 := hX
 replace hX := And.intro w0 hX
 refine zSF [4, 5, 7, 16] (sat_spec_l1In _ _ _) ?_
 clear hX
 have hX := hX0
 clear hX0
 refine zC ?_ ?_
 · intro c1
   have hw := inR_iff.1 c1
   obtain ⟨k, hk⟩ := Int.eq_ofNat_of_zero_le hw.1
   have hk2 : k < xs.length := by omega
   intro ρ hL
   repeat refine awl_seq ?_
   refine awl_regD mixed _ rfl fun K hK => ?_
   try simp only [go_sem, simprocAttr, hL, hX, hk, put_ints hk2]
   repeat' refine And.intro (by first | omega | (exact ⟨[0, 0, 2, 0, 8, 24, 56, 127, 255], by kernel_rfl⟩) | kernel_rfl) ?_
   refine dS_call_ro rfl (sat_spec_Plain ?_) ?ha ?hv ?hh ?_
   case ha => simp only [go_sem, simprocAttr, hL, hX, hk, put_ints hk2]; first | done | rfl
   case hv => first | rfl | (simp only [go_sem]; done)
   case hh => first | rfl | (simp only [go_sem]; done)
   try simp only [go_sem, simprocAttr, hL, hX, hk, put_ints hk2]
   repeat' refine And.intro (by first | omega | (exact ⟨[0, 0, 2, 0, 8, 24, 56, 127, 255], by kernel_rfl⟩) | kernel_rfl) ?_
   refine hK _ _ (.mk (awl_live' [7] fun ρ hM => ?_))
   try simp only [go_sem, simprocAttr, hL, hX, hk, put_ints hk2] at hM
   clear hK K hL
   revert ρ hM
   refine zS [6] ?_
   refine zK [2] [2] ?_ ?_
   all_goals try simp only [go_sem, simprocAttr, hX]
   all_goals (rw [learn, if_pos c1, hk, Int.toNat_natCast]; first | done | rfl)
 · intro c1
   intro ρ hL
   refine awl_skip ?_
   revert ρ hL
   refine zS [6] ?_
   refine zK [2] [2] ?_ ?_
   all_goals try simp only [go_sem, simprocAttr, hX]
   all_goals (rw [learn, if_neg (by simp [c1])])
theorem sat_impl_Learn (xs : List Int) (w : Word) (v : Word) (c : Nat) (hb : xs.length ≤ 1099511627776) : Sat Tryz.prog 170 [.sl xs.length c (ints xs), .agg w.cells, .agg v.cells] [] (.slice 0 0 xs.length 0) [⟨1, ints (learn xs w v), true, false⟩] := by
 have hX := trivial
 refine sat_mk [.tmp 6] 0 24 Tryz.call170 Tryz.func170 Tryz.ntmps170 rfl rfl rfl rfl rfl ?_
 refine zI [0, 1, 2] ?_
 refine zS [0, 4, 5] ?_
 refine zSF [0, 4, 5, 7] (sat_slices_Clone_int_int _ _ ?hp0) ?_
 case hp0 => first | assumption | omega | (simp; done)
 have w0 : IntKind.i64.wrap ((xs.length : Int) - 1) = (xs.length : Int) - 1 := wrap64 (by omega)
 have hX0 := hX
 replace hX := And.intro w0 hX
 refine zSF [4, 5, 7, 15] (sat_impl_in _ _ _) ?_
 clear hX
 have hX := hX0
 clear hX0
 refine zC ?_ ?_
 · intro c1
   have hw := inR_iff.1 c1
   obtain ⟨k, hk⟩ := Int.eq_ofNat_of_zero_le hw.1
   have hk2 : k < xs.length := by omega
   intro ρ hL
   repeat refine awl_seq ?_
   refine awl_regD mixed _ rfl fun K hK => ?_
   try simp only [go_sem, simprocAttr, hL, hX, hk, put_ints hk2]
   repeat' refine And.intro (by first | omega | (exact ⟨[0, 0, 2, 0, 8, 24, 63, 127], by kernel_rfl⟩) | kernel_rfl) ?_
   refine dS_call_ro rfl (sat_impl_Bare ?_) ?ha ?hv ?hh ?_
   case ha => simp only [go_sem, simprocAttr, hL, hX, hk, put_ints hk2]; first | done | rfl
   case hv => first | rfl | (simp only [go_sem]; done)
   case hh => first | rfl | (simp only [go_sem]; done)
   try simp only [go_sem, simprocAttr, hL, hX, hk, put_ints hk2]
   repeat' refine And.intro (by first | omega | (exact ⟨[0, 0, 2, 0, 8, 24, 63, 127], by kernel_rfl⟩) | kernel_rfl) ?_
   refine hK _ _ (.mk (awl_live' [7] fun ρ hM => ?_))
   try simp only [go_sem, simprocAttr, hL, hX, hk, put_ints hk2] at hM
   clear hK K hL
   revert ρ hM
   refine zS [6] ?_
   refine zK [2] [2] ?_ ?_
   all_goals try simp only [go_sem, simprocAttr, hX]
   all_goals (rw [learn, if_pos c1, hk, Int.toNat_natCast]; first | done | rfl)
 · intro c1
   intro ρ hL
   refine awl_skip ?_
   revert ρ hL
   refine zS [6] ?_
   refine zK [2] [2] ?_ ?_
   all_goals try simp only [go_sem, simprocAttr, hX]
   all_goals (rw [learn, if_neg (by simp [c1])])
section
attribute [local go_sem] List.length_append List.length_drop marks_len
theorem sat_laws_markIntS (xs : List Int) (t : Int) (c : Nat) (hb : xs.length ≤ 1099511627776) (ht : 0 ≤ t ∧ t ≤ 1099511627776) : Sat Tryz.prog 50 [.slice 0 0 xs.length c, .int .i64 t] [⟨1, ints xs, true, false⟩] (.int .i64 (t + xs.length)) [⟨1, ints (marks t xs.length), true, false⟩] := by
 have hX := trivial
 refine sat_mk [.tmp 4] 1 19 Tryz.call50 Tryz.func50 Tryz.ntmps50 rfl rfl rfl rfl rfl ?_
 refine zI [0, 1] ?_
 refine zS [0, 1] ?_
 refine zS [0, 1, 5] ?_
 intro ρ hL
 have e1 := hL
 refine awl_loopH (fun H0 n σ G => ∃ (i : Nat), n = xs.length - i ∧ (i ≤ xs.length) ∧ (liveE [0] σ ρ ∧ σ 1 = .int .i64 (t + (i : Int)) ∧ σ 5 = .int .i64 (i : Int)) ∧ G = [⟨1, ints (marks t i ++ xs.drop i), true, false⟩]) (fun H0 σ G => (σ 1 = .int .i64 (t + (xs.length : Int))) ∧ G = [⟨1, ints (marks t xs.length), true, false⟩]) ((fun (i : Nat) => xs.length - i) 0) ?init1 (fun n ρ G hI => ?round1) (fun ρ G hJ => ?after1)
 case init1 => exact ⟨0, rfl, (Nat.zero_le _), ⟨liveE_refl _ _, (by rw [hL.2.1]; simp), (hL.2.2)⟩, rfl⟩
 case round1 =>
  clear hL
  obtain ⟨i, hn, i1_0, hL, hG⟩ := hI
  subst hG
  try simp only [go_sem, simprocAttr, e1, hX] at hL
  revert ρ hL
  refine zS [0, 1, 5, 9] ?_
  refine zC ?_ ?_
  · intro c1
    have hi1 : i < xs.length := by omega
    replace hX := And.intro hi1 hX
    intro ρ hL
    refine awl_skip ?_
    refine awl_seq ?_
    refine awl_block fun R1 hw1 hR1 => ?_
    revert ρ hL
    refine zS [0, 1, 5] ?_
    have w5 : IntKind.i64.wrap (t + (i : Int) + 1) = t + (i : Int) + 1 := wrap64 (by omega)
    have hX0 := hX
    replace hX := And.intro w5 hX
    refine zS [0, 1, 5] ?_
    clear hX
    have hX := hX0
    clear hX0
    intro ρ hL
    refine awl_nil ?_
    refine blk_normal (hR1 _ _ (.mk ?_))
    have w1 : IntKind.i64.wrap ((i : Int) + 1) = ((i + 1 : Nat) : Int) := by rw [wrap64 (by omega)]; omega
    replace hX := And.intro w1 hX
    revert ρ hL
    refine zS [0, 1, 5] ?_
    intro ρ hL
    refine awl_nil ?_
    have h1 := hL.2.1
    refine loop_again _ ?meas ⟨i + 1, rfl, (by omega), ⟨(by simp only [go_sem, simprocAttr, hL, hX, e1]), (by rw [h1]; congr 1; omega), (hL.2.2)⟩, by rw [put_ints (by simp [marks_len]; omega), marks_set hi1]⟩
    case meas => subst hn; omega
  · intro c1
    intro ρ hL
    refine awl_exit ?_
    refine loop_break ?_
    have h1 := hL.2.1
    exact ⟨(by rw [h1, show i = xs.length by omega]), by rw [show i = xs.length by omega]; simp⟩
 case after1 =>
  clear hL
  obtain ⟨hL, hG⟩ := hJ
  subst hG
  revert ρ hL
  refine zS [4] ?_
  refine zK [] [0] ?_ ?_
  all_goals try simp only [go_sem, simprocAttr, hX]
  all_goals try clear hR1
  all_goals (first | done | rfl | (simp; done) | (simp [inR]; done) | (simp_all [inR]; done) | (simp [inR]; grind))
end
section
attribute [local go_sem] marks_len
theorem sat_laws_heldIntS (z : Nat) (t : Int) (c : Nat) (hb : z ≤ 1099511627776) (ht : 0 ≤ t ∧ t ≤ 1099511627776) : Sat Tryz.prog 51 [.sl z c (ints (marks t z)), .int .i64 t] [] (.int .i64 (t + z)) [] := by
 have hX := trivial
 refine sat_mk [.tmp 4] 0 21 Tryz.call51 Tryz.func51 Tryz.ntmps51 rfl rfl rfl rfl rfl ?_
 refine zI [0, 1] ?_
 refine zS [0, 1] ?_
 refine zS [0, 1, 5] ?_
 intro ρ hL
 have e1 := hL
 refine awl_loopH (fun H0 n σ G => ∃ (i : Nat), n = z - i ∧ (i ≤ z) ∧ (liveE [0] σ ρ ∧ σ 1 = .int .i64 (t + (i : Int)) ∧ σ 5 = .int .i64 (i : Int)) ∧ G = H0) (fun H0 σ G => (σ 1 = .int .i64 (t + (z : Int))) ∧ G = H0) ((fun (i : Nat) => z - i) 0) ?init1 (fun n ρ G hI => ?round1) (fun ρ G hJ => ?after1)
 case init1 => exact ⟨0, rfl, (Nat.zero_le _), ⟨liveE_refl _ _, (by rw [hL.2.1]; simp), (hL.2.2)⟩, rfl⟩
 case round1 =>
  clear hL
  obtain ⟨i, hn, i1_0, hL, hG⟩ := hI
  subst hG
  try simp only [go_sem, simprocAttr, e1, hX] at hL
  revert ρ hL
  refine zS [0, 1, 5, 9] ?_
  refine zC ?_ ?_
  · intro c1
    have hi1 : i < z := by omega
    replace hX := And.intro hi1 hX
    intro ρ hL
    refine awl_skip ?_
    refine awl_seq ?_
    refine awl_block fun R1 hw1 hR1 => ?_
    have hm : (marks t z).getD i 0 = t + (i : Int) := marks_get hi1
    have hX0 := hX
    replace hX := And.intro hm hX
    revert ρ hL
    refine zS [0, 1, 5, 17] ?_
    clear hX
    have hX := hX0
    clear hX0
    refine zQ ?_ ?_
    · intro c2
      try simp only [cnd] at c2
      simp at c2
    · intro c2
      try simp only [cnd] at c2
      intro ρ hL
      refine awl_skip ?_
      have w5 : IntKind.i64.wrap (t + (i : Int) + 1) = t + (i : Int) + 1 := wrap64 (by omega)
      have hX0 := hX
      replace hX := And.intro w5 hX
      revert ρ hL
      refine zS [0, 1, 5] ?_
      clear hX
      have hX := hX0
      clear hX0
      intro ρ hL
      refine awl_nil ?_
      refine blk_normal (hR1 _ _ (.mk ?_))
      have w1 : IntKind.i64.wrap ((i : Int) + 1) = ((i + 1 : Nat) : Int) := by rw [wrap64 (by omega)]; omega
      replace hX := And.intro w1 hX
      revert ρ hL
      refine zS [0, 1, 5] ?_
      intro ρ hL
      refine awl_nil ?_
      have h1 := hL.2.1
      refine loop_again _ ?meas ⟨i + 1, rfl, (by omega), ⟨(by simp only [go_sem, simprocAttr, hL, hX, e1]), (by rw [h1]; congr 1; omega), (hL.2.2)⟩, rfl⟩
      case meas => subst hn; omega
  · intro c1
    intro ρ hL
    refine awl_exit ?_
    refine loop_break ?_
    have h1 := hL.2.1
    exact ⟨(by rw [h1, show i = z by omega]), rfl⟩
 case after1 =>
  clear hL
  obtain ⟨hL, hG⟩ := hJ
  subst hG
  revert ρ hL
  refine zS [4] ?_
  refine zR ?_
  try simp only [go_sem, simprocAttr]
  all_goals try clear hR1
  all_goals (first | done | rfl | (simp; done) | (simp [inR]; done) | (simp_all [inR]; done) | (simp [inR]; grind))
end
end Go.Proofs.YtokjjeibagmgpaaGreat.AM
