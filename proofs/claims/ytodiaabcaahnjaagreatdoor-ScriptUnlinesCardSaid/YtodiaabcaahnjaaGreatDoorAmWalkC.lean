/- The abstract layer: a store in a region that draws its order. -/
import Derived.Test.YtodiaabcaahnjaaGreatDoorAmWalkB
set_option linter.unusedVariables false
set_option linter.unusedSimpArgs false
namespace Go.Am
open Go
noncomputable section
variable {C : Cx} {N : Nat}
theorem aLB_write {U : UL} {B : List (Option Nat × Nat)} {d : Option Nat} {op : Op} {gd : Option (Option Nat × Bool)} {rest : List LO} {Q : Fr → St → Prop} {fr : Fr} {S S' : St} {sd : Prop} {r : AVal} {fr' : Fr}
    (hop : (match op with | .call ⟨.value _, _, _⟩ => False | _ => True)) (h3 : cls C op = 2) (hi : isIns op = false) (hg : wantL gd fr = some true) (h : aStep C op fr.get S = some ⟨sd, r, S'⟩) (hf : fr.put d r = fr')
    (hk : ∀ e ∈ B, (e.1, d) ∈ U → S'[e.2]? = S[e.2]?) (k : aL C (some (U, B, [])) rest Q fr' S') (hs : sd) : aL C (some (U, B, [])) (⟨d, op, gd⟩ :: rest) Q fr S := by
  simp only [aL, hg, if_true, aOpK]
  subst hf
  have hb : BOk C (some (U, B, [])) (bare op d) fr.get S r S' := bok0 (o := bare op d) (.step ⟨sd, r, S'⟩ h hs) (by show cls C op ≠ 3; rw [h3]; decide)
    (fun b hb => by
      have : cls C op = 1 := by
        unfold loadBox at hb
        split at hb <;> first | rfl | (cases hb; done) | (simp_all [bare, cls])
      rw [h3] at this; cases this) hk hi
  refine .inr (.inr ?_)
  split
  · exact hop.elim
  · rw [h]; exact ⟨hs, hb, k⟩
end
end Go.Am
