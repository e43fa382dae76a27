/- The abstract layer: the walk's rules in a region that draws its order, with loads and calls that the edges leave unordered. -/
import Derived.Test.YtbaminbodfidmaaDoorAmWalk
set_option linter.unusedVariables false
set_option linter.unusedSimpArgs false
namespace Go.Am
open Go

noncomputable section
variable {C : Cx} {N : Nat}

/-- With boxes that are yet to be made. -/
theorem bokH {U : UL} {B : List (Option Nat × Nat)} {H : Holes} {o : Oper} {g : Nat → AVal} {S S' : St} {r : AVal} (h3 : cls C o.op ≠ 3) (hl : ∀ b, loadBox C o.op g = some b → (o.dst, b) ∈ B)
    (hk : ∀ e ∈ B, (e.1, o.dst) ∈ U → S'[e.2]? = S[e.2]?) (hi : isIns o.op = false) (h4 : cls C o.op = 2 → (∀ e ∈ H, S'[e.1]? = some .hole → S[e.1]? = some .hole) ∧ ∀ L : Holes, (∀ e ∈ L, e ∈ H ∧ S[e.1]? = some .hole) → StepX C o g (fill S L) r (fill S' L)) :
    BOk C (some (U, B, H)) o g S r S' := ⟨hl, hk, fun h => absurd h h3, h4, fun _ h => by rw [hi] at h; cases h⟩

/-- n boxes are made in the region; H: their places, and what will stand there. -/
theorem aC_regH {id : Nat} {ops : List LO} {Q : Post} {fr : Fr} {S : St} {U : UL} (hb : C.bm id = some U) (B : List (Option Nat × Nat)) (H : Holes) (n : Nat) (k : aL C (some (U, B, H)) ops (Q .normal) fr (S ++ List.replicate n .hole)) : aC C N (.reg id ops) Q fr S := by
  simp only [aC, hb]
  exact ⟨B, H, n, k⟩

end
end Go.Am
