/- The abstract layer: the walk's rules in a region that draws its order, with loads and calls that the edges leave unordered. -/
import Derived.Test.YtligpgckkbloaaaGreatAmWalk
set_option linter.unusedVariables false
set_option linter.unusedSimpArgs false
section
namespace Go.Am
open Go
noncomputable section
variable {C : Cx} {N : Nat}
theorem bok0 {U : UL} {B : List (Option Nat × Nat)} {o : Oper} {g : Nat → AVal} {S S' : St} {r : AVal} (hst : StepX C o g S r S') (h3 : cls C o.op ≠ 3) (hl : ∀ b, loadBox C o.op g = some b → (o.dst, b) ∈ B)
    (hk : ∀ e ∈ B, (e.1, o.dst) ∈ U → S'[e.2]? = S[e.2]?) (hi : isIns o.op = false) : BOk C (some (U, B, [])) o g S r S' :=
  ⟨hl, hk, fun h => absurd h h3, fun _ => ⟨fun _ h => (by cases h), fun L hL => by
    cases L with
    | nil => exact hst
    | cons e L => cases (hL e (List.mem_cons_self ..)).1⟩, fun _ h => by rw [hi] at h; cases h⟩
theorem aC_regB {id : Nat} {ops : List LO} {Q : Post} {fr : Fr} {S : St} {U : UL} (hb : C.bm id = some U) (B : List (Option Nat × Nat)) (k : aL C (some (U, B, [])) ops (Q .normal) fr S) : aC C N (.reg id ops) Q fr S := by
  simp only [aC, hb]
  exact ⟨B, [], 0, by simpa using k⟩
theorem aLB_nil {U : UL} {B : List (Option Nat × Nat)} {Q : Fr → St → Prop} {fr : Fr} {S : St} (k : Q fr S) : aL C (some (U, B, [])) [] Q fr S := k
theorem aLB_step {U : UL} {B : List (Option Nat × Nat)} {d : Option Nat} {op : Op} {gd : Option (Option Nat × Bool)} {rest : List LO} {Q : Fr → St → Prop} {fr : Fr} {S : St} {sd : Prop} {r : AVal} {fr' : Fr}
    (hop : (match op with | .call ⟨.value _, _, _⟩ => False | _ => True)) (h3 : cls C op ≠ 3) (hi : isIns op = false) (hg : wantL gd fr = some true) (h : aStep C op fr.get S = some ⟨sd, r, S⟩) (hf : fr.put d r = fr')
    (hl : ∀ b, loadBox C op fr.get = some b → (d, b) ∈ B) (k : aL C (some (U, B, [])) rest Q fr' S) (hs : sd) : aL C (some (U, B, [])) (⟨d, op, gd⟩ :: rest) Q fr S := by
  simp only [aL, hg, if_true, aOpK]
  subst hf
  have hb : BOk C (some (U, B, [])) (bare op d) fr.get S r S := bok0 (o := bare op d) (.step ⟨sd, r, S⟩ h hs) h3 hl (fun _ _ _ => rfl) hi
  refine .inr (.inr ?_)
  split
  · exact hop.elim
  · rw [h]; exact ⟨hs, hb, k⟩
theorem aLB_skip {U : UL} {B : List (Option Nat × Nat)} {o : LO} {rest : List LO} {Q : Fr → St → Prop} {fr : Fr} {S : St} {fr' : Fr}
    (hg : wantL o.gd fr = some false) (hf : fr.put o.d (.raw undef) = fr') (k : aL C (some (U, B, [])) rest Q fr' S) : aL C (some (U, B, [])) (o :: rest) Q fr S := by
  subst hf
  simp only [aL, hg, Bool.false_eq_true, if_false]
  exact k
theorem aLB_call {U : UL} {B : List (Option Nat × Nat)} {d : Option Nat} {gd : Option (Option Nat × Bool)} {x : Operand} {xs : Array Operand} {ts : Array TypeId} {rest : List LO} {Q : Fr → St → Prop} {fr : Fr} {S : St} {f : FuncId} {as bs args : List AVal} {r : AVal} {S' : St} {fr' : Fr}
    (hg : wantL gd fr = some true) (hx : aEval C fr.get x = .fn (.func f) as bs) (ha : as ++ xs.toList.map (aEval C fr.get) ++ bs = args) (h : CallX C f args S r S') (hf : fr.put d r = fr')
    (hk : ∀ e ∈ B, (e.1, d) ∈ U → S'[e.2]? = S[e.2]?) (k : aL C (some (U, B, [])) rest Q fr' S') : aL C (some (U, B, [])) (⟨d, .call ⟨.value x, xs, ts⟩, gd⟩ :: rest) Q fr S := by
  subst hf ha
  have hc : cls C (.call ⟨.value x, xs, ts⟩) ≠ 3 := by
    simp only [cls]
    split
    · cases ‹_ = Callee.builtin _›
    · split <;> decide
    · decide
  have hb : BOk C (some (U, B, [])) (bare (.call ⟨.value x, xs, ts⟩) d) fr.get S r S' :=
    bok0 (o := bare (.call ⟨.value x, xs, ts⟩) d) (.call x xs ts f as bs r S' rfl hx h) hc (fun b hb => by cases hb) hk rfl
  simp only [aL, hg, if_true, aOpK, hx]
  exact .inr (.inr ⟨r, S', h, hb, k⟩)
theorem aLB_pure {U : UL} {B : List (Option Nat × Nat)} {p : FuncId → Bool} {q : Nat → Option UL} {d : Option Nat} {gd : Option (Option Nat × Bool)} {x : Operand} {xs : Array Operand} {ts : Array TypeId} {rest : List LO} {Q : Fr → St → Prop} {fr : Fr} {S : St} {f : FuncId} {as bs args cargs : List AVal} {r : AVal} {fr' : Fr}
    (hG : GClosed C) (hc : APure C f cargs r) (hg : wantL gd fr = some true) (hx : aEval (C.wp p q) fr.get x = .fn (.func f) as bs) (ha : as ++ xs.toList.map (aEval (C.wp p q) fr.get) ++ bs = args) (he : cargs = args.map era) (hcl : ∀ a ∈ cargs, Closed a) (hf : fr.put d r = fr')
    (k : aL (C.wp p q) (some (U, B, [])) rest Q fr' S) : aL (C.wp p q) (some (U, B, [])) (⟨d, .call ⟨.value x, xs, ts⟩, gd⟩ :: rest) Q fr S :=
  aLB_call hg hx ha (APure.callW hG hc he hcl) hf (fun _ _ _ => rfl) k
end
end Go.Am
end
section
namespace Go.Am
open Go
noncomputable section
variable {C : Cx} {N : Nat}
theorem aLB_write {U : UL} {B : List (Option Nat × Nat)} {d : Option Nat} {op : Op} {gd : Option (Option Nat × Bool)} {rest : List LO} {Q : Fr → St → Prop} {fr : Fr} {S S' : St} {sd : Prop} {r : AVal} {fr' : Fr}
    (hop : (match op with | .call ⟨.value _, _, _⟩ => False | _ => True)) (h3 : cls C op = 2) (hi : isIns op = false) (hg : wantL gd fr = some true) (h : aStep C op fr.get S = some ⟨sd, r, S'⟩) (hf : fr.put d r = fr')
    (hk : ∀ e ∈ B, (e.1, d) ∈ U → S'[e.2]? = S[e.2]?) (k : aL C (some (U, B, [])) rest Q fr' S') (hs : sd) : aL C (some (U, B, [])) (⟨d, op, gd⟩ :: rest) Q fr S := by
  simp only [aL, hg, if_true, aOpK]
  subst hf
  have hb : BOk C (some (U, B, [])) (bare op d) fr.get S r S' := bok0 (o := bare op d) (.step ⟨sd, r, S'⟩ h hs) (by show cls C op ≠ 3; rw [h3]; decide)
    (fun b hb => by
      have : cls C op = 1 := by
        unfold loadBox at hb
        split at hb <;> first | rfl | (cases hb; done) | (simp_all [bare, cls])
      rw [h3] at this; cases this) hk hi
  refine .inr (.inr ?_)
  split
  · exact hop.elim
  · rw [h]; exact ⟨hs, hb, k⟩
end
end Go.Am
end
