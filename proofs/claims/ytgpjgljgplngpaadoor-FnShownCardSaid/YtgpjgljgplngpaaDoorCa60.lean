/- What the laws on what is drawn look at. No conditions but those each theorem bears. -/
import Derived.Test.YtgpjgljgplngpaaDoorFa
import Derived.Test.YtgpjgljgplngpaaDoorM7
import Derived.Test.YtgpjgljgplngpaaDoorCb1
set_option linter.unusedSimpArgs false
set_option linter.unusedVariables false
namespace Go.Proofs.YtgpjgljgplngpaaDoor.AM
open Go
set_option maxHeartbeats 8000000
set_option maxRecDepth 100000

theorem sat_laws_big (bs : List UInt8)  : Sat Tryd.prog 16 [.sl bs.length bs.length (bytesV bs)] [] (.bool (decide ((bs.length : Int) > 1048576))) [] := by
 have hX := trivial
 refine sat_mk [.tmp 2] 0 6 Tryd.call16 Tryd.func16 Tryd.ntmps16 rfl rfl rfl rfl rfl ?_
 refine zI [0] ?_
 refine zS [0] ?_
 refine zS [2] ?_
 refine zR ?_
 try simp only [go_sem, simprocAttr]
 all_goals (first | done | rfl | (simp; done) | (simp [inR]; done) | (simp_all [inR]; done) | (simp [inR]; grind))
end Go.Proofs.YtgpjgljgplngpaaDoor.AM
