/- A call's bytes: Bytes, Of; the document's. -/
import Derived.Test.YtikookfljnilpaaDoorL04
set_option linter.unusedVariables false
set_option linter.unusedSimpArgs false
namespace Go.Am
open Go Go.Proofs
set_option linter.unusedSimpArgs false
set_option linter.unusedVariables false
set_option maxHeartbeats 4000000
set_option maxRecDepth 100000
section
attribute [local irreducible] aC aL thenQ blockQ scopeQ ALoop AWp

/-- The words of bytes. -/
def wds (l : List UInt8) (k : Nat) : List Nat := (List.range k).map (fun j => wdB l (j + 1)) ++ List.replicate (6 - k) 0
def OfOk (l : List UInt8) : Prop := l.length = 56 ∧ MayC (wdB l 0) (wds l 6)
instance (l : List UInt8) : Decidable (OfOk l) := by unfold OfOk; infer_instance
end
end Go.Am
