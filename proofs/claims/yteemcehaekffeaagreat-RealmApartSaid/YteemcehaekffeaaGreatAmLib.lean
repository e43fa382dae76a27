/- The abstract layer: functions without a Go body that look for bytes, and count them. -/
import Derived.Test.YteemcehaekffeaaGreatAmFresh
import Derived.Lib.Bytealg
set_option linter.unusedVariables false
set_option linter.unusedSimpArgs false
namespace Go.Am
open Go
noncomputable section
end
end Go.Am
