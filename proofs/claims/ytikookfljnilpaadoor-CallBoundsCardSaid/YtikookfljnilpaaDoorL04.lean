/- Numbers and bytes: wire's get, Put, Word, the document's; a call's bytes. -/
import Derived.Test.YtikookfljnilpaaDoorL03
set_option linter.unusedVariables false
set_option linter.unusedSimpArgs false
namespace Go.Am
open Go Go.Proofs
set_option linter.unusedSimpArgs false
set_option linter.unusedVariables false
set_option maxHeartbeats 4000000
set_option maxRecDepth 100000
section
attribute [local irreducible] aC aL thenQ blockQ scopeQ ALoop AWp

theorem foldMM_two (f : Int → Int → Int) (k : IntKind) (a b : Int) : foldMM f [.int k a, .int k b] = some (.int k (f a b)) := rfl
theorem minI_l {a b : Int} (h : a ≤ b) : minI a b = a := by unfold minI; rw [if_neg (by omega)]
theorem minI_r {a b : Int} (h : b ≤ a) : minI a b = b := by
  unfold minI
  split
  · rfl
  · omega
attribute [go_sem] foldMM_two minI_l minI_r

/-! Put -/
def putl (n : Nat) (size : Nat) : List UInt8 := (List.range size).map fun k => UInt8.ofNat (n / 256 ^ k % 256)
@[simp] theorem putl_length (n k : Nat) : (putl n k).length = k := by simp [putl]
attribute [go_sem] putl_length
theorem ofNat_toNat8 (m : Nat) (h : m < 256) : (UInt8.ofNat m).toNat = m := by simp [UInt8.toNat_ofNat']; omega

/-! Get -/
def getl : List UInt8 → Nat
  | [] => 0
  | b :: r => b.toNat + 256 * getl r
/-! get, Get -/
/-! wire.Put -/
/-! Word -/
/-- The number of eight bytes. -/
def wdB (l : List UInt8) (i : Nat) : Nat := getl ((l.take (8 * i + 8)).drop (8 * i))
/-! Put, behind a box -/
end
end Go.Am
