/- Entries copied by the laws. No conditions but those each theorem bears. -/
import Derived.Test.YtokjjeibagmgpaaGreatFa
import Derived.Test.YtokjjeibagmgpaaGreatM4
import Derived.Test.YtokjjeibagmgpaaGreatCa3
set_option linter.unusedSimpArgs false
set_option linter.unusedVariables false
namespace Go.Proofs.YtokjjeibagmgpaaGreat.AM
open Go
set_option maxHeartbeats 8000000
set_option maxRecDepth 100000

theorem sat_laws_toIns (x : Ins)  : Sat Tryz.prog 59 [.agg x.cells] [] (.agg x.cells) [] := by
 have hX := trivial
 refine sat_mk [.cell 2 97] 0 20 Tryz.call59 Tryz.func59 Tryz.ntmps59 rfl rfl rfl rfl rfl ?_
 refine zI [0] ?_
 refine zS [1, 2] ?_
 refine zS [1, 2, 3] ?_
 refine zS [1, 2, 3] ?_
 refine zS [1, 2, 3] ?_
 refine zS [1, 2, 3] ?_
 refine zS [1, 2, 3] ?_
 refine zS [2, 3] ?_
 refine zS [2] ?_
 refine zR ?_
 try simp only [go_sem, simprocAttr]
 all_goals (first | done | rfl | (simp; done) | (simp [inR]; done) | (simp_all [inR]; done) | (simp [inR]; grind))
theorem sat_laws_toEffect (x : Fx)  : Sat Tryz.prog 202 [.agg x.cells] [] (.agg x.cells) [] := by
 have hX := trivial
 refine sat_mk [.cell 2 121] 0 29 Tryz.call202 Tryz.func202 Tryz.ntmps202 rfl rfl rfl rfl rfl ?_
 refine zI [0] ?_
 refine zS [1, 2] ?_
 refine zS [1, 2, 3] ?_
 refine zS [1, 2, 3] ?_
 refine zS [1, 2, 3] ?_
 refine zSF [1, 2, 3] (sat_laws_toWord _) ?_
 refine zSF [1, 2, 3] (sat_laws_toWord _) ?_
 refine zS [1, 2, 3] ?_
 refine zSF [1, 2, 3] (sat_laws_toWord _) ?_
 refine zS [2, 3] ?_
 refine zS [2] ?_
 refine zR ?_
 try simp only [go_sem, simprocAttr]
 all_goals (first | done | rfl | (simp; done) | (simp [inR]; done) | (simp_all [inR]; done) | (simp [inR]; grind))
theorem sat_laws_toEntry (x : Ent)  : Sat Tryz.prog 153 [.agg x.cells] [] (.agg x.cells) [] := by
 have hX := trivial
 refine sat_mk [.cell 2 124] 0 24 Tryz.call153 Tryz.func153 Tryz.ntmps153 rfl rfl rfl rfl rfl ?_
 refine zI [0] ?_
 refine zS [1, 2] ?_
 refine zS [1, 2, 3] ?_
 refine zSF [1, 2, 3] (sat_laws_toWord _) ?_
 refine zSF [1, 2, 3] (sat_laws_toIns _) ?_
 refine zS [1, 2, 3] ?_
 refine zSF [1, 2, 3] (sat_laws_toEffect _) ?_
 refine zSF [2, 3] (sat_laws_toWord _) ?_
 refine zS [2] ?_
 refine zR ?_
 try simp only [go_sem, simprocAttr]
 all_goals (first | done | rfl | (simp; done) | (simp [inR]; done) | (simp_all [inR]; done) | (simp [inR]; grind))
end Go.Proofs.YtokjjeibagmgpaaGreat.AM
