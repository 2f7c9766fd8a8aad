/- Entries in order; cores in order. No conditions but those each theorem bears. -/
import Derived.Test.YtgddflnhibhacaaGreatFa
import Derived.Test.YtgddflnhibhacaaGreatSp7
import Derived.Test.YtgddflnhibhacaaGreatCa10
import Derived.Test.YtgddflnhibhacaaGreatCa11
set_option linter.unusedSimpArgs false
set_option linter.unusedVariables false
namespace Go.Proofs.YtgddflnhibhacaaGreat.AM
open Go

end Go.Proofs.YtgddflnhibhacaaGreat.AM
