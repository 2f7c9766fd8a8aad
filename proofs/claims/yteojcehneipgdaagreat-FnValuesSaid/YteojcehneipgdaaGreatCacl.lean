/- Rows copied. No conditions but those each theorem bears. -/
import Derived.Test.YteojcehneipgdaaGreatFa
import Derived.Test.YteojcehneipgdaaGreatM5
import Derived.Test.YteojcehneipgdaaGreatCa3
set_option linter.unusedSimpArgs false
set_option linter.unusedVariables false
namespace Go.Proofs.YteojcehneipgdaaGreat.AM
open Go
set_option maxHeartbeats 8000000
set_option maxRecDepth 100000

theorem sat_slices_Clone_impl_Word_impl_Word_N   : Sat Tryz.prog 140 [.nilsl] [] .nilsl [] := by
 have hX := trivial
 refine sat_mk [.tmp 2] 0 8 Tryz.call140 Tryz.func140 Tryz.ntmps140 rfl rfl rfl rfl rfl ?_
 refine zI [0] ?_
 refine zS [0] ?_
 refine zS [0, 4] ?_
 refine zQ ?_ ?_
 · intro c1
   try simp only [cnd] at c1
   refine zS [2] ?_
   refine zR ?_
   try simp only [go_sem, simprocAttr]
   all_goals (first | done | rfl | (simp; done) | (simp [inR]; done) | (simp_all [inR]; done) | (simp [inR]; grind))
 · intro c1
   try simp only [cnd] at c1
   simp at c1
theorem sat_slices_Clone_impl_Word_impl_Word_S (xs : List Word) (c : Nat) (hb : xs.length ≤ 1099511627776) : Sat Tryz.prog 140 [.nnsl xs.length c (rows xs)] [] (.slice 0 0 xs.length 0) [⟨6, rows xs, true, false⟩] := by
 have hX := trivial
 refine sat_mk [.tmp 2] 0 8 Tryz.call140 Tryz.func140 Tryz.ntmps140 rfl rfl rfl rfl rfl ?_
 refine zI [0] ?_
 refine zS [0] ?_
 refine zS [0, 4] ?_
 refine zQ ?_ ?_
 · intro c1
   try simp only [cnd] at c1
   simp at c1
 · intro c1
   try simp only [cnd] at c1
   intro ρ hL
   refine awl_skip ?_
   revert ρ hL
   refine zS [2] ?_
   refine zK [0] [0] ?_ ?_
   all_goals try simp only [go_sem, simprocAttr, hX]
   all_goals (first | done | rfl | (simp; done) | (simp [inR]; done) | (simp_all [inR]; done) | (simp [inR]; grind))
theorem sat_slices_Clone_impl_Word_impl_Word (xs : List Word) (c : Nat) (hb : xs.length ≤ 1099511627776) : Sat Tryz.prog 140 [.sl xs.length c (rows xs)] [] (.slice 0 0 xs.length 0) [⟨6, rows xs, true, false⟩] := by
  refine sat_sl (fun h0 _ => ?_) (sat_slices_Clone_impl_Word_impl_Word_S xs c hb)
  obtain rfl : xs = [] := List.eq_nil_of_length_eq_zero h0
  exact sat_nil_back sat_slices_Clone_impl_Word_impl_Word_N
theorem sat_slices_Clone_bool_bool_N   : Sat Tryz.prog 187 [.nilsl] [] .nilsl [] := by
 have hX := trivial
 refine sat_mk [.tmp 2] 0 8 Tryz.call187 Tryz.func187 Tryz.ntmps187 rfl rfl rfl rfl rfl ?_
 refine zI [0] ?_
 refine zS [0] ?_
 refine zS [0, 4] ?_
 refine zQ ?_ ?_
 · intro c1
   try simp only [cnd] at c1
   refine zS [2] ?_
   refine zR ?_
   try simp only [go_sem, simprocAttr]
   all_goals (first | done | rfl | (simp; done) | (simp [inR]; done) | (simp_all [inR]; done) | (simp [inR]; grind))
 · intro c1
   try simp only [cnd] at c1
   simp at c1
theorem sat_slices_Clone_bool_bool_S (xs : List Bool) (c : Nat) (hb : xs.length ≤ 1099511627776) : Sat Tryz.prog 187 [.nnsl xs.length c (rows xs)] [] (.slice 0 0 xs.length 0) [⟨1, rows xs, true, false⟩] := by
 have hX := trivial
 refine sat_mk [.tmp 2] 0 8 Tryz.call187 Tryz.func187 Tryz.ntmps187 rfl rfl rfl rfl rfl ?_
 refine zI [0] ?_
 refine zS [0] ?_
 refine zS [0, 4] ?_
 refine zQ ?_ ?_
 · intro c1
   try simp only [cnd] at c1
   simp at c1
 · intro c1
   try simp only [cnd] at c1
   intro ρ hL
   refine awl_skip ?_
   revert ρ hL
   refine zS [2] ?_
   refine zK [0] [0] ?_ ?_
   all_goals try simp only [go_sem, simprocAttr, hX]
   all_goals (first | done | rfl | (simp; done) | (simp [inR]; done) | (simp_all [inR]; done) | (simp [inR]; grind))
theorem sat_slices_Clone_bool_bool (xs : List Bool) (c : Nat) (hb : xs.length ≤ 1099511627776) : Sat Tryz.prog 187 [.sl xs.length c (rows xs)] [] (.slice 0 0 xs.length 0) [⟨1, rows xs, true, false⟩] := by
  refine sat_sl (fun h0 _ => ?_) (sat_slices_Clone_bool_bool_S xs c hb)
  obtain rfl : xs = [] := List.eq_nil_of_length_eq_zero h0
  exact sat_nil_back sat_slices_Clone_bool_bool_N
end Go.Proofs.YteojcehneipgdaaGreat.AM
