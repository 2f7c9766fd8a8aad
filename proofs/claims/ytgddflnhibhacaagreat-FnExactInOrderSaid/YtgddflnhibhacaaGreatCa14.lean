/- Cores in order; where an entry's words come from. No conditions but those each theorem bears. -/
import Derived.Test.YtgddflnhibhacaaGreatFa
import Derived.Test.YtgddflnhibhacaaGreatSp7
import Derived.Test.YtgddflnhibhacaaGreatCa12
set_option linter.unusedSimpArgs false
set_option linter.unusedVariables false
namespace Go.Proofs.YtgddflnhibhacaaGreat.AM
open Go

end Go.Proofs.YtgddflnhibhacaaGreat.AM
