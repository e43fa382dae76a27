/- View chapter: the granules that differ. -/
import Derived.Test.YtligpgckkbloaaaGreatV03
set_option linter.unusedVariables false
set_option linter.unusedSimpArgs false
namespace Go.Am
open Go Go.Proofs
set_option maxHeartbeats 8000000
set_option maxRecDepth 100000
section
attribute [local irreducible] aC aL thenQ blockQ scopeQ ALoop AWp
theorem foldMM_six (f : Int → Int → Int) (k : IntKind) (a b c d e g : Int) : foldMM f [.int k a, .int k b, .int k c, .int k d, .int k e, .int k g] = some (.int k (f (f (f (f (f a b) c) d) e) g)) := rfl
theorem maxI_nat (a b : Nat) : maxI (a : Int) (b : Int) = ((max a b : Nat) : Int) := by unfold maxI; split <;> omega
attribute [go_sem] foldMM_six maxI_nat
end
end Go.Am
