/- Finding in rows; is a state in order. Commands and their parts. Finding in rows of entries. Entries in order; cores in order. Cores in order; where an entry's words come from. Where an entry's words come from. No conditions but those each theorem bears. -/
import Derived.Test.YtgpjgljgplngpaaDoorFa
import Derived.Test.YtgpjgljgplngpaaDoorM4
import Derived.Test.YtgpjgljgplngpaaDoorCb2
import Derived.Test.YtgpjgljgplngpaaDoorCb1
import Derived.Test.YtgpjgljgplngpaaDoorM5
set_option linter.unusedSimpArgs false
set_option linter.unusedVariables false
namespace Go.Proofs.YtgpjgljgplngpaaDoor.AM
open Go
set_option maxHeartbeats 8000000
set_option maxRecDepth 100000

end Go.Proofs.YtgpjgljgplngpaaDoor.AM
