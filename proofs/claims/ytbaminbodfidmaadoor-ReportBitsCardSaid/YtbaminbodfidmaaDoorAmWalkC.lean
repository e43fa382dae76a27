/- The abstract layer: a store in a region that draws its order. -/
import Derived.Test.YtbaminbodfidmaaDoorAmWalkB
set_option linter.unusedVariables false
set_option linter.unusedSimpArgs false
namespace Go.Am
open Go

noncomputable section
variable {C : Cx} {N : Nat}

/-! ### Regions in which boxes are made -/
theorem aLH_nil {m : Md} {Q : Fr → St → Prop} {fr : Fr} {S : St} (k : Q fr S) : aL C m [] Q fr S := k

theorem aLH_skip {m : Md} {o : LO} {rest : List LO} {Q : Fr → St → Prop} {fr : Fr} {S : St} {fr' : Fr}
    (hg : wantL o.gd fr = some false) (hf : fr.put o.d (.raw undef) = fr') (k : aL C m rest Q fr' S) : aL C m (o :: rest) Q fr S := by
  subst hf
  simp only [aL, hg, Bool.false_eq_true, if_false]
  exact k

/-- An operation that writes nothing. -/
theorem aLH_step {U : UL} {B : List (Option Nat × Nat)} {H : Holes} {d : Option Nat} {op : Op} {gd : Option (Option Nat × Bool)} {rest : List LO} {Q : Fr → St → Prop} {fr : Fr} {S : St} {sd : Prop} {r : AVal} {fr' : Fr}
    (hop : (match op with | .call ⟨.value _, _, _⟩ => False | _ => True)) (h3 : Nat.ble (cls C op) 1 = true) (hi : isIns op = false) (hg : wantL gd fr = some true) (h : aStep C op fr.get S = some ⟨sd, r, S⟩) (hf : fr.put d r = fr')
    (hl : ∀ b, loadBox C op fr.get = some b → (d, b) ∈ B) (k : aL C (some (U, B, H)) rest Q fr' S) (hs : sd) : aL C (some (U, B, H)) (⟨d, op, gd⟩ :: rest) Q fr S := by
  simp only [aL, hg, if_true, aOpK]
  subst hf
  have h3 := Nat.le_of_ble_eq_true h3
  have hb : BOk C (some (U, B, H)) (bare op d) fr.get S r S := bokH (o := bare op d) (by show cls C op ≠ 3; omega) hl (fun _ _ _ => rfl) hi (fun h => by
    have h : cls C op = 2 := h
    omega)
  refine .inr (.inr ?_)
  split
  · exact hop.elim
  · rw [h]; exact ⟨hs, hb, k⟩

/-- A box is made. -/
theorem aLH_alloc {U : UL} {B : List (Option Nat × Nat)} {H : Holes} {d : Option Nat} {t : TypeId} {i : TI} {gd : Option (Option Nat × Bool)} {rest : List LO} {Q : Fr → St → Prop} {fr : Fr} {S S' : St} {fr' : Fr} (j : Nat)
    (hg : wantL gd fr = some true) (hi : C.T t = some i) (hs : S[j]? = some .hole) (hS : S.set j (.cells i.zero t) = S') (hf : fr.put d (.ptr j 0) = fr') (hH : (j, .cells i.zero t) ∈ H) (hk : ∀ e ∈ B, (e.1, d) ∈ U → S'[e.2]? = S[e.2]?) (k : aL C (some (U, B, H)) rest Q fr' S') :
    aL C (some (U, B, H)) (⟨d, .alloc t, gd⟩ :: rest) Q fr S := by
  simp only [aL, hg, if_true, aOpK]
  subst hf hS
  exact .inr (.inl ⟨j, t, i, rfl, hi, hs, ⟨(fun b hb => by cases hb), hk, fun _ => ⟨j, _, hH, (fun e => by cases e), hs, rfl, fun U hU => .fillA j t i rfl hi hU⟩, (fun h => by cases h), fun _ h => by cases h⟩, k⟩)

/-- A store, behind the making of all boxes. -/
theorem aLH_write {U : UL} {B : List (Option Nat × Nat)} {H : Holes} {d : Option Nat} {op : Op} {gd : Option (Option Nat × Bool)} {rest : List LO} {Q : Fr → St → Prop} {fr : Fr} {S S' : St} {sd : Prop} {r : AVal} {fr' : Fr}
    (hop : (match op with | .call ⟨.value _, _, _⟩ => False | _ => True)) (h3 : Nat.beq (cls C op) 2 = true) (hi : isIns op = false) (hl : loadBox C op fr.get = none) (hg : wantL gd fr = some true) (h : aStep C op fr.get S = some ⟨sd, r, S'⟩) (hf : fr.put d r = fr')
    (hn : ∀ e ∈ H, S[e.1]? ≠ some .hole) (hn' : ∀ e ∈ H, S'[e.1]? ≠ some .hole) (hk : ∀ e ∈ B, (e.1, d) ∈ U → S'[e.2]? = S[e.2]?) (k : aL C (some (U, B, H)) rest Q fr' S') (hs : sd) : aL C (some (U, B, H)) (⟨d, op, gd⟩ :: rest) Q fr S := by
  simp only [aL, hg, if_true, aOpK]
  subst hf
  have hb : BOk C (some (U, B, H)) (bare op d) fr.get S r S' := bokH (o := bare op d) (fun h => by
      have h : cls C op = 3 := h
      rw [Nat.eq_of_beq_eq_true h3] at h
      cases h) (fun b hb => by rw [show loadBox C (bare op d).op fr.get = none from hl] at hb; cases hb) hk hi (fun _ => ⟨fun e he h => absurd h (hn' e he), fun L hL => by
    cases L with
    | nil => exact .step ⟨sd, r, S'⟩ h hs
    | cons e L => exact absurd (hL e (List.mem_cons_self ..)).2 (hn e (hL e (List.mem_cons_self ..)).1)⟩)
  refine .inr (.inr ?_)
  split
  · exact hop.elim
  · rw [h]; exact ⟨hs, hb, k⟩

end
end Go.Am
