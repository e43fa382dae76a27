/- Lists of calls: call.List, the document's List. -/
import Derived.Test.YtikookfljnilpaaDoorL13
import Derived.Test.YtikookfljnilpaaDoorC31
set_option linter.unusedVariables false
set_option linter.unusedSimpArgs false
namespace Go.Am
open Go Go.Proofs
set_option linter.unusedSimpArgs false
set_option linter.unusedVariables false
set_option maxHeartbeats 8000000
set_option maxRecDepth 100000
section
attribute [local irreducible] aC aL thenQ blockQ scopeQ ALoop AWp

theorem cells_map (i : Nat) : (AVal.map i).cells = [.map i] := rfl
theorem okc_map (i : Nat) : (AVal.map i).okc ↔ True := okc_one rfl rfl
attribute [go_sem] cells_map okc_map
theorem setElems7 (x c : AVal) (l : List Nat) (h : l.length = 6) : setElems 7 [x] [(0, .agg (c :: wl l))] = some [.agg (c :: wl l)] := by simp [setElems, AVal.cells, h]
attribute [go_sem] setElems7
abbrev Ca := Int × List Nat
def cv1 (c : Ca) : AVal := .agg (.int .i64 c.1 :: wl c.2)
def cvs (l : List Ca) : List AVal := l.map cv1
theorem length_cvs (l : List Ca) : (cvs l).length = l.length := by simp [cvs]
theorem closed_cv1 (c : Ca) : Closed (cv1 c) := by simp [cv1]
theorem closed_cvs (l : List Ca) : (∀ x ∈ cvs l, Closed x) ↔ True := ⟨fun _ => trivial, fun _ x hx => by obtain ⟨c, _, rfl⟩ := List.mem_map.1 hx; exact closed_cv1 c⟩
attribute [go_sem] length_cvs
attribute [simp] closed_cvs

end
end Go.Am
