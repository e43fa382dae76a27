/- The closed facts of the row, one by one (all at once they take more memory than there is). -/
import Derived.Test.YtligpgckkbloaaaGreatRows
import Derived.Test.YtligpgckkbloaaaGreatChecked
import Derived.KernelRfl
import Derived.JoinedOf
set_option linter.unusedVariables false
set_option linter.unusedSimpArgs false
namespace Go.Am
open Go Go.Proofs Go.Proofs.YtligpgckkbloaaaGreat
set_option maxRecDepth 100000
set_option maxHeartbeats 16000000
theorem viewOwn_ba {a b : Bool} (h : a = true) (k : b = true) : (a && b) = true := by rw [h, k]; rfl
theorem joined_viewOwn : joinedFacts Tryz.pinned.checked.prog 4 Tryz.f4 Rows.viewOwnSpec Rows.viewOwnRow = true := by
  unfold joinedFacts
  repeat' (with_reducible apply viewOwn_ba)
  all_goals (as_aux_lemma => kernel_rfl)
end Go.Am
