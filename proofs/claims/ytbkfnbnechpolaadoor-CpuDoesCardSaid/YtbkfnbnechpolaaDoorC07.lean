/- Registers as a list; ref13.Do. -/
import Derived.Test.YtbkfnbnechpolaaDoorC06
set_option linter.unusedVariables false
set_option linter.unusedSimpArgs false
namespace Go.Am
open Go Go.Proofs
set_option linter.unusedSimpArgs false
set_option linter.unusedVariables false
set_option maxHeartbeats 4000000
set_option maxRecDepth 100000
attribute [local irreducible] aC aL thenQ blockQ scopeQ ALoop AWp

/-- Words, as cells. -/
def ws (l : List Int) : List AVal := l.map fun n => .int .u64 n
theorem ws_length (l : List Int) : (ws l).length = l.length := by simp [ws]
theorem ws_load {l : List Int} {k : Nat} (h : k < l.length) : (List.take 1 (List.drop k (ws l))).headD .any = .int .u64 (l.getD k 0) := by
  have h' : k < (ws l).length := by rw [ws_length]; exact h
  rw [List.drop_eq_getElem_cons h']
  simp [ws, List.getD, h]
theorem ws_take {l : List Int} (h : l.length = 9) : List.take 9 (ws l) = ws l := List.take_of_length_le (by rw [ws_length]; omega)
theorem ws_put {l : List Int} {k : Nat} {v : Int} : putCells (ws l) k [.int .u64 v] = ws (l.set k v) := by
  show (ws l).set k _ = _
  simp [ws, List.map_set]
theorem ws_store {l : List Int} (h : l.length = 9) : putCells (List.replicate 9 (.int .u64 0)) 0 (ws l) = ws l := by
  rw [putCells_eq _ _ _ (by rw [ws_length]; simp; omega), ws_length, h]
  simp
theorem ws_one (l : List Int) : (∀ c ∈ ws l, c.one = true) = True := by
  simp [ws, AVal.one]
theorem ws_drop0 (l : List Int) : List.drop 0 (ws l) = ws l := rfl
theorem ws_head {l : List Int} (h : 0 < l.length) : (List.take 1 (ws l)).headD .any = .int .u64 (l.getD 0 0) := ws_load (k := 0) h
theorem ws_closed (l : List Int) : (∀ x ∈ ws l, Closed x) = True := by
  simp [ws]
theorem ws_clo (l : List Int) : ∀ x ∈ ws l, Closed x := by simp [ws]
theorem ws_get8 {l : List Int} {k : Nat} {v : Int} (h : k < 8) : (l.set 8 v).getD k 0 = l.getD k 0 := by
  simp [List.getD, show (8 : Nat) ≠ k by omega]
end Go.Am
