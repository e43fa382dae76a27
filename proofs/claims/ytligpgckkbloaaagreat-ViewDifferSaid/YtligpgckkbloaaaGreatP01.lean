/- Numbers and bytes: wire's get, Put, the document's; Same. -/
import Derived.Test.YtligpgckkbloaaaGreatTryzSx
import Derived.Test.YtligpgckkbloaaaGreatAmSimp
import Derived.Test.YtligpgckkbloaaaGreatAmYield
import Derived.Test.YtligpgckkbloaaaGreatAmWalkB
import Derived.Test.YtligpgckkbloaaaGreatAmFreshZ
set_option linter.unusedVariables false
set_option linter.unusedSimpArgs false
namespace Go.Am
open Go Go.Proofs
set_option maxHeartbeats 4000000
set_option maxRecDepth 100000
section
attribute [local irreducible] aC aL thenQ blockQ scopeQ ALoop AWp
theorem foldMM_two (f : Int → Int → Int) (k : IntKind) (a b : Int) : foldMM f [.int k a, .int k b] = some (.int k (f a b)) := rfl
theorem minI_l {a b : Int} (h : a ≤ b) : minI a b = a := by unfold minI; rw [if_neg (by omega)]
theorem minI_r {a b : Int} (h : b ≤ a) : minI a b = b := by
  unfold minI
  split
  · rfl
  · omega
attribute [go_sem] foldMM_two minI_l minI_r
def putl (n : Nat) (size : Nat) : List UInt8 := (List.range size).map fun k => UInt8.ofNat (n / 256 ^ k % 256)
@[simp] theorem putl_length (n k : Nat) : (putl n k).length = k := by simp [putl]
attribute [go_sem] putl_length
end
end Go.Am
