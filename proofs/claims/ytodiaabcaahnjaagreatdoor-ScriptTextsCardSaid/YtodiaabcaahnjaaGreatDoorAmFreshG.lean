/- The abstract layer: functions that hand out a slice of their own, to be grown. -/
import Derived.Test.YtodiaabcaahnjaaGreatDoorAmFresh
import Derived.Test.YtodiaabcaahnjaaGreatDoorAmWalkB
set_option linter.unusedVariables false
set_option linter.unusedSimpArgs false
namespace Go.Am
open Go
noncomputable section
end
end Go.Am
