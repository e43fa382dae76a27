/- cpu seat: strings.Builder: copyCheck and String by the model's own walk; WriteString. -/
import Derived.Test.YtikookfljnilpaaDoorTrydSx
import Derived.Test.YtikookfljnilpaaDoorAmBld
import Derived.Shelf.RegionOpenPlain
import Derived.Lib.Strings
import Derived.Lib.Slices
import Derived.Lib.Walk
import Derived.Lib.AppendStr
import Derived.Laws.Externs
import Derived.Test.YtikookfljnilpaaDoorAmFresh
import Derived.Test.YtikookfljnilpaaDoorAmSimp
import Derived.Test.YtikookfljnilpaaDoorAmDrop
section
set_option linter.unusedVariables false
set_option linter.unusedSimpArgs false
set_option linter.unusedVariables false
set_option linter.unusedSimpArgs false
namespace Go.Am
open Go Go.RowKit Go.Proofs

end Go.Am
end
section
set_option linter.unusedVariables false
set_option linter.unusedSimpArgs false
namespace Go.Am
open Go Go.Proofs
set_option linter.unusedSimpArgs false
set_option linter.unusedVariables false
set_option maxHeartbeats 4000000
set_option maxRecDepth 100000
attribute [local irreducible] aC aL thenQ blockQ scopeQ ALoop AWp

end Go.Am
end
