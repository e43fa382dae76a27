/- The abstract layer: the walk's rules in a region that draws its order, with loads and calls that the edges leave unordered. -/
import Derived.Test.YtligpgckkbloaaaGreatAmWalk
set_option linter.unusedVariables false
set_option linter.unusedSimpArgs false
section
namespace Go.Am
open Go
noncomputable section
variable {C : Cx} {N : Nat}
end
end Go.Am
end
section
namespace Go.Am
open Go
noncomputable section
variable {C : Cx} {N : Nat}
end
end Go.Am
end
