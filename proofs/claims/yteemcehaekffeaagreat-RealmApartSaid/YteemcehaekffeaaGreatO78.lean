/- The closed facts of the row, one by one (all at once they take more memory than there is). -/
import Derived.Test.YteemcehaekffeaaGreatRows
import Derived.Test.YteemcehaekffeaaGreatChecked
import Derived.KernelRfl
import Derived.JoinedOf
set_option linter.unusedVariables false
set_option linter.unusedSimpArgs false
namespace Go.Am
open Go Go.Proofs Go.Proofs.YteemcehaekffeaaGreat
set_option maxRecDepth 100000
set_option maxHeartbeats 16000000
theorem realmApart_ba {a b:Bool} (h:a=true) (k:b=true):(a&&b)=true:=by rw [h,k];rfl
theorem joined_realmApart:joinedFacts Tryz.pinned.checked.prog 5 Tryz.f5 Rows.realmApartSpec Rows.realmApartRow=true:=by
 unfold joinedFacts
 repeat' (with_reducible apply realmApart_ba)
 all_goals (as_aux_lemma=>kernel_rfl)
end Go.Am
