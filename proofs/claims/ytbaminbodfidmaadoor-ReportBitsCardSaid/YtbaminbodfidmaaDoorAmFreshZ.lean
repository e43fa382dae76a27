/- The abstract layer: a call that makes a map of its own, in whatever order it was laid. -/
import Derived.Test.YtbaminbodfidmaaDoorAmFresh
set_option linter.unusedVariables false
set_option linter.unusedSimpArgs false
namespace Go.Am
open Go

noncomputable section

end
end Go.Am
