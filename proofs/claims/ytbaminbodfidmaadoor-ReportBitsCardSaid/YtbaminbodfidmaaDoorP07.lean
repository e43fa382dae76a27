/- cpu seat: strings.Builder: a builder's box. -/
import Derived.Test.YtbaminbodfidmaaDoorC31
import Derived.Test.YtbaminbodfidmaaDoorAmFresh
import Derived.Test.YtbaminbodfidmaaDoorAmSimp
import Derived.Test.YtbaminbodfidmaaDoorAmDrop
set_option linter.unusedVariables false
set_option linter.unusedSimpArgs false
namespace Go.Am
open Go Go.Proofs
set_option linter.unusedSimpArgs false
set_option linter.unusedVariables false
set_option maxHeartbeats 4000000
set_option maxRecDepth 100000
attribute [local irreducible] aC aL thenQ blockQ scopeQ ALoop AWp

theorem set_turn {α : Type} (l : List α) {i g : Nat} (h : i ≠ g) (x y z : α) : (l.set i x).set g y = ((l.set i z).set g y).set i x := by
  apply List.ext_getElem?
  intro k
  by_cases h1 : i = k
  · subst h1
    rw [List.getElem?_set_ne (Ne.symm h)]
    by_cases hl : i < l.length
    · rw [List.getElem?_set_self hl, List.getElem?_set_self (by simpa using hl)]
    · rw [List.getElem?_eq_none (by simpa using hl), List.getElem?_eq_none (by simpa using hl)]
  · rw [List.getElem?_set_ne h1]
    by_cases h2 : g = k
    · subst h2
      by_cases hl : g < l.length
      · rw [List.getElem?_set_self (by simpa using hl), List.getElem?_set_self (by simpa using hl)]
      · rw [List.getElem?_eq_none (by simpa using hl), List.getElem?_eq_none (by simpa using hl)]
    · rw [List.getElem?_set_ne h2, List.getElem?_set_ne h2, List.getElem?_set_ne h1, List.getElem?_set_ne h1]

/-- The builder in box i, its row in g. -/
def bld (i g : Nat) (p : AVal) (bs : List UInt8) : ABox := .cells [p, .sl 1 bs.isEmpty (bl bs) (.own g)] 82
end Go.Am
