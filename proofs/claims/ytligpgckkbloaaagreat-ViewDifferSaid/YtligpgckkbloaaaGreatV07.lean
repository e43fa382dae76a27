/- View chapter: the chapter's rows, by the kernel. -/
import Derived.Test.YtligpgckkbloaaaGreatTryzEx
set_option linter.unusedVariables false
set_option linter.unusedSimpArgs false
namespace Go.Am
open Go Go.Proofs
set_option maxRecDepth 100000
theorem view_known : APure cx 5 [] (.bool true) :=
  xPure_ok tabOk 1000 (e := fe5) (by kernel_rfl) (Nat.zero_le _) (by kernel_rfl)
end Go.Am
