/- Cores copied. No conditions but those each theorem bears. -/
import Derived.Test.YteojcehneipgdaaGreatFa
import Derived.Test.YteojcehneipgdaaGreatM5
import Derived.Test.YteojcehneipgdaaGreatCa28
import Derived.Test.YteojcehneipgdaaGreatCa3
set_option linter.unusedSimpArgs false
set_option linter.unusedVariables false
namespace Go.Proofs.YteojcehneipgdaaGreat.AM
open Go
set_option maxHeartbeats 8000000
set_option maxRecDepth 100000

theorem sat_slices_Clone_impl_Entry_impl_Entry_N   : Sat Tryz.prog 164 [.nilsl] [] .nilsl [] := by
 have hX := trivial
 refine sat_mk [.tmp 2] 0 8 Tryz.call164 Tryz.func164 Tryz.ntmps164 rfl rfl rfl rfl rfl ?_
 refine zI [0] ?_
 refine zS [0] ?_
 refine zS [0, 4] ?_
 refine zQ ?_ ?_
 · intro c1
   try simp only [cnd] at c1
   refine zS [2] ?_
   refine zR ?_
   try simp only [go_sem, simprocAttr]
   all_goals (first | done | rfl | (simp; done) | (simp [inR]; done) | (simp_all [inR]; done) | (simp [inR]; grind))
 · intro c1
   try simp only [cnd] at c1
   simp at c1
theorem sat_slices_Clone_impl_Entry_impl_Entry_S (xs : List Ent) (c : Nat) (hb : xs.length ≤ 1048576) : Sat Tryz.prog 164 [.nnsl xs.length c (rows xs)] [] (.slice 0 0 xs.length 0) [⟨40, rows xs, true, false⟩] := by
 have hX := trivial
 refine sat_mk [.tmp 2] 0 8 Tryz.call164 Tryz.func164 Tryz.ntmps164 rfl rfl rfl rfl rfl ?_
 refine zI [0] ?_
 refine zS [0] ?_
 refine zS [0, 4] ?_
 refine zQ ?_ ?_
 · intro c1
   try simp only [cnd] at c1
   simp at c1
 · intro c1
   try simp only [cnd] at c1
   intro ρ hL
   refine awl_skip ?_
   revert ρ hL
   refine zS [2] ?_
   refine zK [0] [0] ?_ ?_
   all_goals try simp only [go_sem, simprocAttr, hX]
   all_goals (first | done | rfl | (simp; done) | (simp [inR]; done) | (simp_all [inR]; done) | (simp [inR]; grind))
theorem sat_slices_Clone_impl_Entry_impl_Entry (xs : List Ent) (c : Nat) (hb : xs.length ≤ 1048576) : Sat Tryz.prog 164 [.sl xs.length c (rows xs)] [] (.slice 0 0 xs.length 0) [⟨40, rows xs, true, false⟩] := by
  refine sat_sl (fun h0 _ => ?_) (sat_slices_Clone_impl_Entry_impl_Entry_S xs c hb)
  obtain rfl : xs = [] := List.eq_nil_of_length_eq_zero h0
  exact sat_nil_back sat_slices_Clone_impl_Entry_impl_Entry_N
theorem sat_impl_cloneCore (c : Cor) (hb : c.fit) : Sat Tryz.prog 94 [.agg c.cells] [] (.agg (c.own 0 1 2 3 4)) c.blks := by
 have hX := trivial
 refine sat_mk [.cell 2 52] 0 16 Tryz.call94 Tryz.func94 Tryz.ntmps94 rfl rfl rfl rfl rfl ?_
 refine zI [0] ?_
 refine zS [1, 2] ?_
 intro ρ hL
 refine zAD [0, 1, 3, 0, 8, 31, 0, 64, 255, 223, 1023, 2047, 4095, 8191, 16383] ?_
 intro K hK
 refine zFD [0, 1, 3, 0, 8, 31, 0, 64, 255, 223, 1023, 2047, 4095, 8191, 16383] (sat_impl_cloneState c.s hb.1) ?_
 refine zFD [0, 1, 3, 0, 8, 31, 0, 64, 255, 223, 1023, 2047, 4095, 8191, 16383] (sat_slices_Clone_impl_Entry_impl_Entry c.rob c.rob.length hb.2.1) ?_
 refine zFD [0, 1, 3, 0, 8, 31, 0, 64, 255, 223, 1023, 2047, 4095, 8191, 16383] (sat_slices_Clone_int_int c.guesses c.guesses.length (Nat.le_trans hb.2.2 (by decide))) ?_
 refine zE [1, 2] ?_
 clear hK K hL
 refine zS [2] ?_
 refine zK [2, 3, 4, 5, 6] [2, 3, 4, 5, 6] ?_ ?_
 all_goals try simp only [go_sem, simprocAttr, hX]
 all_goals (first | done | rfl | (simp; done) | (simp [inR]; done) | (simp_all [inR]; done) | (simp [inR]; grind))
theorem sat_spec_l12Copy (c : Cor) (hb : c.fit) : Sat Tryz.prog 98 [.agg c.cells] [] (.agg (c.own 0 1 2 3 4)) c.blks := by
 have hX := trivial
 refine sat_mk [.cell 2 52] 0 19 Tryz.call98 Tryz.func98 Tryz.ntmps98 rfl rfl rfl rfl rfl ?_
 refine zI [0] ?_
 have hb1 := hb.2.1
 have hb2 := hb.2.2
 refine zS [1, 2] ?_
 intro ρ hL
 refine zAD [0, 1, 3, 0, 0, 16, 63, 0, 128, 0, 512, 0, 0, 4096, 14463, 32767, 65535] ?_
 intro K hK
 refine zFD [0, 1, 3, 0, 0, 16, 63, 0, 128, 0, 512, 0, 0, 4096, 14463, 32767, 65535] (sat_spec_l9Copy c.s hb.1) ?_
 refine zE [2] ?_
 clear hK K hL
 refine zK [2, 3, 4, 5, 6] [2, 3, 4, 5, 6] ?_ ?_
 all_goals try simp only [go_sem, simprocAttr, hX]
 all_goals (first | done | rfl | (simp; done) | (simp [inR]; done) | (simp_all [inR]; done) | (simp [inR]; grind))
end Go.Proofs.YteojcehneipgdaaGreat.AM
