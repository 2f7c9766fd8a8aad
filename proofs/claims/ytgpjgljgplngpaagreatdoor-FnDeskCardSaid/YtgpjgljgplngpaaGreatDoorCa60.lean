/- What the laws on what is drawn look at. No conditions but those each theorem bears. -/
import Derived.Test.YtgpjgljgplngpaaGreatDoorFa
import Derived.Test.YtgpjgljgplngpaaGreatDoorX3
import Derived.Test.YtgpjgljgplngpaaGreatDoorCb1
set_option linter.unusedSimpArgs false
set_option linter.unusedVariables false
namespace Go.Proofs.YtgpjgljgplngpaaGreatDoor.AM
open Go
set_option maxHeartbeats 8000000
set_option maxRecDepth 100000
theorem sat_laws_big (bs : List UInt8)  : Sat Tryz.prog 14 [.sl bs.length bs.length (bytesV bs)] [] (.bool (decide ((bs.length : Int) > 1048576))) [] := by
 have hX := trivial
 refine sat_mk [.tmp 2] 0 6 Tryz.call14 Tryz.func14 Tryz.ntmps14 rfl rfl rfl rfl rfl ?_
 refine zI [0] ?_
 refine zS [0] ?_
 refine zS [2] ?_
 refine zR ?_
 try simp only [go_sem, simprocAttr]
 all_goals (first | done | rfl | (simp; done) | (simp [inR]; done) | (simp_all [inR]; done) | (simp [inR]; grind))
end Go.Proofs.YtgpjgljgplngpaaGreatDoor.AM
