/- The closed facts of the row, one by one (all at once they take more memory than there is). -/
import Derived.Test.YtligpgckkbloaaaGreatRows
import Derived.Test.YtligpgckkbloaaaGreatChecked
import Derived.KernelRfl
import Derived.JoinedOf
set_option linter.unusedVariables false
set_option linter.unusedSimpArgs false
namespace Go.Am
open Go Go.Proofs Go.Proofs.YtligpgckkbloaaaGreat
set_option maxRecDepth 100000
set_option maxHeartbeats 16000000
theorem viewDiffer_ba {a b : Bool} (h : a = true) (k : b = true) : (a && b) = true := by rw [h, k]; rfl
theorem joined_viewDiffer : joinedFacts Tryz.pinned.checked.prog 3 Tryz.f3 Rows.viewDifferSpec Rows.viewDifferRow = true := by
  unfold joinedFacts
  repeat' (with_reducible apply viewDiffer_ba)
  all_goals (as_aux_lemma => kernel_rfl)
end Go.Am
