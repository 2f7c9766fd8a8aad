/- Applying what a command comes to. A step; steps in order. Sweeps. A new core. Fetching into a core. Committing. No conditions but those each theorem bears. -/
import Derived.Test.YtgpjgljgplngpaaDoorFa
import Derived.Test.YtgpjgljgplngpaaDoorM5
import Derived.Test.YtgpjgljgplngpaaDoorCb1
import Derived.Test.YtgpjgljgplngpaaDoorCb3
import Derived.Test.YtgpjgljgplngpaaDoorCb4
import Derived.Test.YtgpjgljgplngpaaDoorCb2
set_option linter.unusedSimpArgs false
set_option linter.unusedVariables false
namespace Go.Proofs.YtgpjgljgplngpaaDoor.AM
open Go
set_option maxHeartbeats 8000000
set_option maxRecDepth 100000

end Go.Proofs.YtgpjgljgplngpaaDoor.AM
