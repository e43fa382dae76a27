/- The abstract layer: the walk's rule for a range over a map whose rounds do not lean on each other. -/
import Derived.Test.YtbaminbodfidmaaDoorAmLend
import Derived.Test.YtbaminbodfidmaaDoorAmWalkC
set_option linter.unusedVariables false
set_option linter.unusedSimpArgs false
namespace Go.Am
open Go

noncomputable section
variable {C : Cx} {N : Nat}

end
end Go.Am
