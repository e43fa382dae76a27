/- The abstract layer: a call that makes a map of its own, in whatever order it was laid. -/
import Derived.Test.YteemcehaekffeaaGreatAmFresh
import Derived.Test.YteemcehaekffeaaGreatAmWalkB
set_option linter.unusedVariables false
set_option linter.unusedSimpArgs false
section
namespace Go.Am
open Go
noncomputable section
end
end Go.Am
end
section
namespace Go.Am
open Go
noncomputable section
end
end Go.Am
end
section
namespace Go.Am
open Go
noncomputable section
variable {C:Cx} {N:Nat}
end
end Go.Am
end
