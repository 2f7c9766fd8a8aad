/- Finding in rows of entries. No conditions but those each theorem bears. -/
import Derived.Test.YtgddflnhibhacaaGreatFa
import Derived.Test.YtgddflnhibhacaaGreatM4
import Derived.Test.YtgddflnhibhacaaGreatCa9
import Derived.Test.YtgddflnhibhacaaGreatCa11t
set_option linter.unusedSimpArgs false
set_option linter.unusedVariables false
namespace Go.Proofs.YtgddflnhibhacaaGreat.AM
open Go

end Go.Proofs.YtgddflnhibhacaaGreat.AM
