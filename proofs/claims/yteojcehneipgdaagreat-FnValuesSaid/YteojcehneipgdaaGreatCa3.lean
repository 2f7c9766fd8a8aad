/- Words, and what is learnt. No conditions but those each theorem bears. -/
import Derived.Test.YteojcehneipgdaaGreatFa
import Derived.Test.YteojcehneipgdaaGreatM4
import Derived.Test.YteojcehneipgdaaGreatM3
import Derived.Test.YteojcehneipgdaaGreatCa2
set_option linter.unusedSimpArgs false
set_option linter.unusedVariables false
namespace Go.Proofs.YteojcehneipgdaaGreat.AM
open Go
set_option maxHeartbeats 8000000
set_option maxRecDepth 100000

theorem sat_spec_Plain (n : Int)  : Sat Tryz.prog 173 [.int .i64 n] [] (.agg (plain n).cells) [] := by
 have hX := trivial
 refine sat_mk [.cell 2 29] 0 6 Tryz.call173 Tryz.func173 Tryz.ntmps173 rfl rfl rfl rfl rfl ?_
 refine zI [0] ?_
 refine zS [0, 2] ?_
 refine zS [2] ?_
 refine zR ?_
 try simp only [go_sem, simprocAttr]
 all_goals (first | done | rfl | (simp; done) | (simp [inR]; done) | (simp_all [inR]; done) | (simp [inR]; grind))
theorem sat_impl_Plain (n : Int)  : Sat Tryz.prog 204 [.int .i64 n] [] (.agg (plain n).cells) [] := by
 have hX := trivial
 refine sat_mk [.cell 2 29] 0 6 Tryz.call204 Tryz.func204 Tryz.ntmps204 rfl rfl rfl rfl rfl ?_
 refine zI [0] ?_
 refine zS [0, 2] ?_
 refine zS [2] ?_
 refine zR ?_
 try simp only [go_sem, simprocAttr]
 all_goals (first | done | rfl | (simp; done) | (simp [inR]; done) | (simp_all [inR]; done) | (simp [inR]; grind))
theorem sat_impl_Bare (w : Word)  : Sat Tryz.prog 172 [.agg w.cells] [] (.agg (plain w.n).cells) [] := by
 have hX := trivial
 refine sat_mk [.cell 2 29] 0 6 Tryz.call172 Tryz.func172 Tryz.ntmps172 rfl rfl rfl rfl rfl ?_
 refine zI [0] ?_
 refine zS [1, 2] ?_
 refine zSF [2] (sat_impl_Plain _) ?_
 refine zR ?_
 try simp only [go_sem, simprocAttr]
 all_goals (first | done | rfl | (simp; done) | (simp [inR]; done) | (simp_all [inR]; done) | (simp [inR]; grind))
theorem sat_slices_Clone_int_int_N   : Sat Tryz.prog 165 [.nilsl] [] .nilsl [] := by
 have hX := trivial
 refine sat_mk [.tmp 2] 0 8 Tryz.call165 Tryz.func165 Tryz.ntmps165 rfl rfl rfl rfl rfl ?_
 refine zI [0] ?_
 refine zS [0] ?_
 refine zS [0, 4] ?_
 refine zQ ?_ ?_
 · intro c1
   try simp only [cnd] at c1
   refine zS [2] ?_
   refine zR ?_
   try simp only [go_sem, simprocAttr]
   all_goals (first | done | rfl | (simp; done) | (simp [inR]; done) | (simp_all [inR]; done) | (simp [inR]; grind))
 · intro c1
   try simp only [cnd] at c1
   simp at c1
theorem sat_slices_Clone_int_int_S (xs : List Int) (c : Nat) (hb : xs.length ≤ 1099511627776) : Sat Tryz.prog 165 [.nnsl xs.length c (ints xs)] [] (.slice 0 0 xs.length 0) [⟨1, ints xs, true, false⟩] := by
 have hX := trivial
 refine sat_mk [.tmp 2] 0 8 Tryz.call165 Tryz.func165 Tryz.ntmps165 rfl rfl rfl rfl rfl ?_
 refine zI [0] ?_
 refine zS [0] ?_
 refine zS [0, 4] ?_
 refine zQ ?_ ?_
 · intro c1
   try simp only [cnd] at c1
   simp at c1
 · intro c1
   try simp only [cnd] at c1
   intro ρ hL
   refine awl_skip ?_
   revert ρ hL
   refine zS [2] ?_
   refine zK [0] [0] ?_ ?_
   all_goals try simp only [go_sem, simprocAttr, hX]
   all_goals (first | done | rfl | (simp; done) | (simp [inR]; done) | (simp_all [inR]; done) | (simp [inR]; grind))
theorem sat_slices_Clone_int_int (xs : List Int) (c : Nat) (hb : xs.length ≤ 1099511627776) : Sat Tryz.prog 165 [.sl xs.length c (ints xs)] [] (.slice 0 0 xs.length 0) [⟨1, ints xs, true, false⟩] := by
  refine sat_sl (fun h0 _ => ?_) (sat_slices_Clone_int_int_S xs c hb)
  obtain rfl : xs = [] := List.eq_nil_of_length_eq_zero h0
  exact sat_nil_back sat_slices_Clone_int_int_N
theorem sat_spec_Learn (xs : List Int) (w : Word) (v : Word) (c : Nat) (hb : xs.length ≤ 1099511627776) : Sat Tryz.prog 109 [.sl xs.length c (ints xs), .agg w.cells, .agg v.cells] [] (.slice 0 0 xs.length 0) [⟨1, ints (learn xs w v), true, false⟩] := by
 have hX := trivial
 refine sat_mk [.tmp 6] 0 26 Tryz.call109 Tryz.func109 Tryz.ntmps109 rfl rfl rfl rfl rfl ?_
 refine zI [0, 1, 2] ?_
 refine zS [0, 4, 5] ?_
 refine zS [0, 4, 5, 7] ?_
 have w0 : IntKind.i64.wrap ((xs.length : Int) - 1) = (xs.length : Int) - 1 := wrap64 (by omega)
 have hX0 := hX
 replace hX := And.intro w0 hX
 refine zSF [4, 5, 7, 16] (sat_spec_l1In _ _ _) ?_
 clear hX
 have hX := hX0
 clear hX0
 refine zC ?_ ?_
 · intro c1
   have hw := inR_iff.1 c1
   obtain ⟨k, hk⟩ := Int.eq_ofNat_of_zero_le hw.1
   have hk2 : k < xs.length := by omega
   intro ρ hL
   repeat refine awl_seq ?_
   refine awl_regD mixed _ rfl fun K hK => ?_
   try simp only [go_sem, simprocAttr, hL, hX, hk, put_ints hk2]
   repeat' refine And.intro (by first | omega | (exact ⟨[0, 0, 2, 0, 8, 24, 56, 127, 255], by kernel_rfl⟩) | kernel_rfl) ?_
   refine dS_call_ro rfl (sat_spec_Plain ?_) ?ha ?hv ?hh ?_
   case ha => simp only [go_sem, simprocAttr, hL, hX, hk, put_ints hk2]; first | done | rfl
   case hv => first | rfl | (simp only [go_sem]; done)
   case hh => first | rfl | (simp only [go_sem]; done)
   try simp only [go_sem, simprocAttr, hL, hX, hk, put_ints hk2]
   repeat' refine And.intro (by first | omega | (exact ⟨[0, 0, 2, 0, 8, 24, 56, 127, 255], by kernel_rfl⟩) | kernel_rfl) ?_
   refine hK _ _ (.mk (awl_live' [7] fun ρ hM => ?_))
   try simp only [go_sem, simprocAttr, hL, hX, hk, put_ints hk2] at hM
   clear hK K hL
   revert ρ hM
   refine zS [6] ?_
   refine zK [2] [2] ?_ ?_
   all_goals try simp only [go_sem, simprocAttr, hX]
   all_goals (rw [learn, if_pos c1, hk, Int.toNat_natCast]; first | done | rfl)
 · intro c1
   intro ρ hL
   refine awl_skip ?_
   revert ρ hL
   refine zS [6] ?_
   refine zK [2] [2] ?_ ?_
   all_goals try simp only [go_sem, simprocAttr, hX]
   all_goals (rw [learn, if_neg (by simp [c1])])
theorem sat_impl_Learn (xs : List Int) (w : Word) (v : Word) (c : Nat) (hb : xs.length ≤ 1099511627776) : Sat Tryz.prog 108 [.sl xs.length c (ints xs), .agg w.cells, .agg v.cells] [] (.slice 0 0 xs.length 0) [⟨1, ints (learn xs w v), true, false⟩] := by
 have hX := trivial
 refine sat_mk [.tmp 6] 0 24 Tryz.call108 Tryz.func108 Tryz.ntmps108 rfl rfl rfl rfl rfl ?_
 refine zI [0, 1, 2] ?_
 refine zS [0, 4, 5] ?_
 refine zSF [0, 4, 5, 7] (sat_slices_Clone_int_int _ _ ?hp0) ?_
 case hp0 => first | assumption | omega | (simp; done)
 have w0 : IntKind.i64.wrap ((xs.length : Int) - 1) = (xs.length : Int) - 1 := wrap64 (by omega)
 have hX0 := hX
 replace hX := And.intro w0 hX
 refine zSF [4, 5, 7, 15] (sat_impl_in _ _ _) ?_
 clear hX
 have hX := hX0
 clear hX0
 refine zC ?_ ?_
 · intro c1
   have hw := inR_iff.1 c1
   obtain ⟨k, hk⟩ := Int.eq_ofNat_of_zero_le hw.1
   have hk2 : k < xs.length := by omega
   intro ρ hL
   repeat refine awl_seq ?_
   refine awl_regD mixed _ rfl fun K hK => ?_
   try simp only [go_sem, simprocAttr, hL, hX, hk, put_ints hk2]
   repeat' refine And.intro (by first | omega | (exact ⟨[0, 0, 2, 0, 8, 24, 63, 127], by kernel_rfl⟩) | kernel_rfl) ?_
   refine dS_call_ro rfl (sat_impl_Bare ?_) ?ha ?hv ?hh ?_
   case ha => simp only [go_sem, simprocAttr, hL, hX, hk, put_ints hk2]; first | done | rfl
   case hv => first | rfl | (simp only [go_sem]; done)
   case hh => first | rfl | (simp only [go_sem]; done)
   try simp only [go_sem, simprocAttr, hL, hX, hk, put_ints hk2]
   repeat' refine And.intro (by first | omega | (exact ⟨[0, 0, 2, 0, 8, 24, 63, 127], by kernel_rfl⟩) | kernel_rfl) ?_
   refine hK _ _ (.mk (awl_live' [7] fun ρ hM => ?_))
   try simp only [go_sem, simprocAttr, hL, hX, hk, put_ints hk2] at hM
   clear hK K hL
   revert ρ hM
   refine zS [6] ?_
   refine zK [2] [2] ?_ ?_
   all_goals try simp only [go_sem, simprocAttr, hX]
   all_goals (rw [learn, if_pos c1, hk, Int.toNat_natCast]; first | done | rfl)
 · intro c1
   intro ρ hL
   refine awl_skip ?_
   revert ρ hL
   refine zS [6] ?_
   refine zK [2] [2] ?_ ?_
   all_goals try simp only [go_sem, simprocAttr, hX]
   all_goals (rw [learn, if_neg (by simp [c1])])
end Go.Proofs.YteojcehneipgdaaGreat.AM
