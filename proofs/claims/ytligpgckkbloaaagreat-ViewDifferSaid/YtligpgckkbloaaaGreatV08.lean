/- ViewOwn's law, for any two: true. -/
import Derived.Test.YtligpgckkbloaaaGreatV06
import Derived.Test.YtligpgckkbloaaaGreatV07
set_option linter.unusedVariables false
set_option linter.unusedSimpArgs false
namespace Go.Am
open Go Go.Proofs
set_option maxHeartbeats 8000000
set_option maxRecDepth 100000
section
attribute [local irreducible] aC aL thenQ blockQ scopeQ ALoop AWp
@[simp] theorem closed_bl_or (m : List UInt8) (P : AVal → Prop) : (∀ x, x ∈ bl m ∨ P x → Closed x) ↔ ∀ x, P x → Closed x := by
  constructor
  · exact fun h x hx => h x (.inr hx)
  · rintro h x (hx | hx)
    · obtain ⟨b, _, rfl⟩ := List.mem_map.1 hx
      exact (closed_bv b).2 trivial
    · exact h x hx
structure Ow.W (o : Ow) : Prop where
  m32 : o.m.length = 32
  p1 : o.p.length ≤ 9223372036854775807
  r1 : o.r.length ≤ 9223372036854775807
  p2 : ∀ x ∈ o.p, x.Ok
  r2 : ∀ x ∈ o.r, x.Ok
end
end Go.Am
