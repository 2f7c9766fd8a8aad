/- A session. No conditions but those each theorem bears. -/
import Derived.Test.YtgpjgljgplngpaaGreatDoorFa
import Derived.Test.YtgpjgljgplngpaaGreatDoorCa91
import Derived.Test.YtgpjgljgplngpaaGreatDoorCa92
set_option linter.unusedSimpArgs false
set_option linter.unusedVariables false
namespace Go.Proofs.YtgpjgljgplngpaaGreatDoor.AM
open Go
set_option maxHeartbeats 8000000
set_option maxRecDepth 100000
theorem sat_spec_DeskLine2 (d : Dsk) (l : Bs) (hf : d.fit) (ho : d.order.length ≤ 1000000) (hl : l.length ≤ 1048576) : Sat Tryz.prog 17 [.agg d.cells, .str (bt l)] [] (.tuple [.agg ((dskLine d l).1.own 0 1 2 3 4 5 6), .str (bt (dskLine d l).2)]) (dskLine d l).1.blks := by rw [← line_eq]; exact sat_spec_DeskLine d l hf ho hl
end Go.Proofs.YtgpjgljgplngpaaGreatDoor.AM
