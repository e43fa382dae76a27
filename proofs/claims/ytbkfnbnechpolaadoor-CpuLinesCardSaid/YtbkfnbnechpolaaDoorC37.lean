/- CpuBack: the walk of the law. -/
import Derived.Test.YtbkfnbnechpolaaDoorC33
import Derived.Test.YtbkfnbnechpolaaDoorC36
import Derived.Test.YtbkfnbnechpolaaDoorC01
set_option linter.unusedVariables false
set_option linter.unusedSimpArgs false
namespace Go.Am
open Go Go.Proofs
set_option linter.unusedSimpArgs false
set_option linter.unusedVariables false
set_option maxHeartbeats 8000000
set_option maxRecDepth 100000
attribute [local irreducible] aC aL thenQ blockQ scopeQ ALoop AWp
attribute [-go_sem] putCells_eq
attribute [local go_sem] ws_store9 ws_length ws_load ws_take ws_put ws_store ws_drop0 ws_head ws_one ws_closed ws_get8 Nat.mul_one
attribute [local simp] ws_closed

end Go.Am
