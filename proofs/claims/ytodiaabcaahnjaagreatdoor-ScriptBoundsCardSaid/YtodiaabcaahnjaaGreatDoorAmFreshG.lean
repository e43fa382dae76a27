/- The abstract layer: functions that hand out a slice of their own, to be grown. -/
import Derived.Test.YtodiaabcaahnjaaGreatDoorAmFresh
import Derived.Test.YtodiaabcaahnjaaGreatDoorAmWalkB
import Derived.Test.YtodiaabcaahnjaaGreatDoorS05
import Derived.Test.YtodiaabcaahnjaaGreatDoorS08
set_option linter.unusedVariables false
set_option linter.unusedSimpArgs false
section
namespace Go.Am
open Go
noncomputable section
end
end Go.Am
end
section
namespace Go.Am
open Go Go.Proofs
set_option maxHeartbeats 8000000
set_option maxRecDepth 100000
section
attribute [local irreducible] aC aL thenQ blockQ scopeQ ALoop AWp
end
end Go.Am
end
section
namespace Go.Am
open Go Go.Proofs
set_option maxHeartbeats 8000000
set_option maxRecDepth 100000
section
attribute [local irreducible] aC aL thenQ blockQ scopeQ ALoop AWp
end
end Go.Am
end
section
namespace Go.Am
open Go Go.Proofs
set_option maxHeartbeats 8000000
set_option maxRecDepth 100000
section
attribute [local irreducible] aC aL thenQ blockQ scopeQ ALoop AWp
end
end Go.Am
end
