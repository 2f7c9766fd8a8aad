/- States copied. No conditions but those each theorem bears. -/
import Derived.Test.YteojcehneipgdaaGreatFa
import Derived.Test.YteojcehneipgdaaGreatM5
import Derived.Test.YteojcehneipgdaaGreatCacl
import Derived.Test.YteojcehneipgdaaGreatCa7
set_option linter.unusedSimpArgs false
set_option linter.unusedVariables false
namespace Go.Proofs.YteojcehneipgdaaGreat.AM
open Go
set_option maxHeartbeats 8000000
set_option maxRecDepth 100000

theorem sat_spec_l8Copy (m : Mem) (hb : m.fit) : Sat Tryz.prog 144 [.agg m.cells] [] (.agg (m.own 0 1)) m.blks := by
 have hX := trivial
 refine sat_mk [.cell 2 32] 0 12 Tryz.call144 Tryz.func144 Tryz.ntmps144 rfl rfl rfl rfl rfl ?_
 refine zI [0] ?_
 have hb1 := hb.1
 have hb2 := hb.2
 refine zS [1, 2] ?_
 refine zD [0, 0, 2, 7, 0, 0, 32, 127, 255, 511] [2] ?_
 refine zK [2, 3] [2, 3] ?_ ?_
 all_goals try simp only [go_sem, simprocAttr, hX]
 all_goals (first | done | rfl | (simp; done) | (simp [inR]; done) | (simp_all [inR]; done) | (simp [inR]; grind))
theorem sat_impl_cloneMemory (m : Mem) (hb : m.fit) : Sat Tryz.prog 141 [.agg m.cells] [] (.agg (m.own 0 1)) m.blks := by
 have hX := trivial
 refine sat_mk [.cell 2 32] 0 10 Tryz.call141 Tryz.func141 Tryz.ntmps141 rfl rfl rfl rfl rfl ?_
 refine zI [0] ?_
 refine zS [1, 2] ?_
 intro ρ hL
 refine zAD [0, 1, 3, 0, 8, 31, 63, 127] ?_
 intro K hK
 refine zFD [0, 1, 3, 0, 8, 31, 63, 127] (sat_slices_Clone_impl_Word_impl_Word m.words m.words.length (Nat.le_trans hb.1 (by decide))) ?_
 refine zFD [0, 1, 3, 0, 8, 31, 63, 127] (sat_slices_Clone_bool_bool m.gone m.gone.length (Nat.le_trans hb.2 (by decide))) ?_
 refine zE [2] ?_
 clear hK K hL
 refine zK [2, 3] [2, 3] ?_ ?_
 all_goals try simp only [go_sem, simprocAttr, hX]
 all_goals (first | done | rfl | (simp; done) | (simp [inR]; done) | (simp_all [inR]; done) | (simp [inR]; grind))
theorem sat_spec_l9Copy (s : Stt) (hb : s.fit) : Sat Tryz.prog 72 [.agg s.cells] [] (.agg (s.own 0 1 2)) s.blks := by
 have hX := trivial
 refine sat_mk [.cell 2 34] 0 15 Tryz.call72 Tryz.func72 Tryz.ntmps72 rfl rfl rfl rfl rfl ?_
 refine zI [0] ?_
 have hb1 := hb.1
 refine zS [1, 2] ?_
 intro ρ hL
 refine zAD [0, 0, 2, 7, 0, 16, 0, 64, 207, 0, 512, 2047, 4095] ?_
 intro K hK
 refine zFD [0, 0, 2, 7, 0, 16, 0, 64, 207, 0, 512, 2047, 4095] (sat_spec_l8Copy s.mem hb.2) ?_
 refine zE [2] ?_
 clear hK K hL
 refine zK [2, 3, 4] [2, 3, 4] ?_ ?_
 all_goals try simp only [go_sem, simprocAttr, hX]
 all_goals (first | done | rfl | (simp; done) | (simp [inR]; done) | (simp_all [inR]; done) | (simp [inR]; grind))
theorem sat_impl_cloneState (s : Stt) (hb : s.fit) : Sat Tryz.prog 67 [.agg s.cells] [] (.agg (s.own 0 1 2)) s.blks := by
 have hX := trivial
 refine sat_mk [.cell 2 34] 0 12 Tryz.call67 Tryz.func67 Tryz.ntmps67 rfl rfl rfl rfl rfl ?_
 refine zI [0] ?_
 refine zS [1, 2] ?_
 intro ρ hL
 refine zAD [0, 1, 3, 0, 8, 31, 31, 127, 255, 511] ?_
 intro K hK
 refine zFD [0, 1, 3, 0, 8, 31, 31, 127, 255, 511] (sat_slices_Clone_impl_Word_impl_Word s.regs s.regs.length (Nat.le_trans hb.1 (by decide))) ?_
 refine zFD [0, 1, 3, 0, 8, 31, 31, 127, 255, 511] (sat_impl_cloneMemory s.mem hb.2) ?_
 refine zE [1, 2] ?_
 clear hK K hL
 refine zS [2] ?_
 refine zK [2, 3, 4] [2, 3, 4] ?_ ?_
 all_goals try simp only [go_sem, simprocAttr, hX]
 all_goals (first | done | rfl | (simp; done) | (simp [inR]; done) | (simp_all [inR]; done) | (simp [inR]; grind))
end Go.Proofs.YteojcehneipgdaaGreat.AM
