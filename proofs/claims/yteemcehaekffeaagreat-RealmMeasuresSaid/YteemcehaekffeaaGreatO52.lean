/- The closed facts of the row, one by one (all at once they take more memory than there is). -/
import Derived.Test.YteemcehaekffeaaGreatRows
import Derived.Test.YteemcehaekffeaaGreatChecked
import Derived.KernelRfl
import Derived.JoinedOf
set_option linter.unusedVariables false
set_option linter.unusedSimpArgs false
namespace Go.Am
open Go Go.Proofs Go.Proofs.YteemcehaekffeaaGreat
set_option maxRecDepth 100000
set_option maxHeartbeats 16000000
theorem realmMeasures_ba {a b:Bool} (h:a=true) (k:b=true):(a&&b)=true:=by rw [h,k];rfl
theorem joined_realmMeasures:joinedFacts Tryz.pinned.checked.prog 3 Tryz.f3 Rows.realmMeasuresSpec Rows.realmMeasuresRow=true:=by
 unfold joinedFacts
 repeat' (with_reducible apply realmMeasures_ba)
 all_goals (as_aux_lemma=>kernel_rfl)
end Go.Am
