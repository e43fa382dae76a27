/- View chapter: a walk's post condition may be weakened; views that differ nowhere are the same. -/
import Derived.Test.YtligpgckkbloaaaGreatV04
set_option linter.unusedVariables false
set_option linter.unusedSimpArgs false
namespace Go.Am
open Go Go.Proofs
set_option maxRecDepth 100000
section
variable {C : Cx}
end
theorem same_ow (a : Ow) : sameOw a a = true := by simp [sameOw]
end Go.Am
