/- The abstract layer: a contract over one map (whose entries came in whatever order), at any state that has it. -/
import Derived.Test.YtbaminbodfidmaaDoorAmFreshZ
set_option linter.unusedVariables false
set_option linter.unusedSimpArgs false
namespace Go.Am
open Go

noncomputable section

end
end Go.Am
