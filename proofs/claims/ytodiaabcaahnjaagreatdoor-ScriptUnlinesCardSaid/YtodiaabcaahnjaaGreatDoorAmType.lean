/- The abstract layer: the types as the program itself gives them; functions and bodies by closed facts. -/
import Derived.Test.YtodiaabcaahnjaaGreatDoorAmPure
set_option linter.unusedVariables false
set_option linter.unusedSimpArgs false
namespace Go.Am
open Go
noncomputable section
open Classical
def basicOk (P : Program) (n : Nat) (t : TypeId) : Bool :=
  decide (t < n) && match P.underlying t, P.info? t with
  | some d, some inf => match inf.zero with
    | some z => (z.cells.toList.length == inf.size) && z.cells.toList.all (·.oneCell') && ((match z with | .agg _ => true | _ => false) == isAggD d) && (isAggD d || inf.size == 1)
    | none => false
  | _, _ => false
def cT (P : Program) (t : TypeId) : Option TI :=
  match P.underlying t, P.info? t with
  | some d, some inf => match inf.zero with
    | some z => some ⟨d, inf.size, inf.bytes, z.cells.toList.map ofCell⟩
    | none => none
  | _, _ => none
def tyB (P : Program) (n : Nat) (t : TypeId) : Option TI := if basicOk P n t = true then cT P t else none
def fieldsB (P : Program) (n : Nat) (t : TypeId) : Bool :=
  match P.underlying t with
  | some (.struct fs) => fs.toList.all fun f => basicOk P n f.type
  | _ => true
def closedB (P : Program) (n : Nat) : Bool := (List.range n).all fun t => !basicOk P n t || fieldsB P n t
theorem tyB_some {P : Program} {n : Nat} {t : TypeId} {i : TI} (h : tyB P n t = some i) : basicOk P n t = true ∧ i.ok P t := by
  unfold tyB at h
  split at h
  · next hb =>
    refine ⟨hb, ?_⟩
    unfold cT at h
    split at h
    · next d inf hu hinf =>
      split at h
      · next z hz =>
        injection h with h
        subst h
        simp only [basicOk, hu, hinf, hz, Bool.and_eq_true, beq_iff_eq, Bool.or_eq_true] at hb
        obtain ⟨_, ⟨⟨h1, h2⟩, h3⟩, h4⟩ := hb
        refine ⟨hu, inf, z, hinf, rfl, rfl, hz, rfl, h1, h2, h3, ?_⟩
        simp only [TI.isAgg, Bool.or_eq_true, beq_iff_eq]
        exact h4
      · cases h
    · cases h
  · cases h
theorem tyB_isSome {P : Program} {n : Nat} {t : TypeId} (h : basicOk P n t = true) : (tyB P n t).isSome = true := by
  unfold tyB
  rw [if_pos h]
  unfold basicOk at h
  unfold cT
  simp only [Bool.and_eq_true] at h
  have h := h.2
  split at h
  · split at h
    · rfl
    · cases h
  · cases h
theorem tyB_ok {P : Program} {n : Nat} (h : closedB P n = true) : TOk P (tyB P n) := by
  refine ⟨fun t i h => (tyB_some h).2, fun t i fs ht hd f hfm => ?_⟩
  obtain ⟨hb, hi⟩ := tyB_some ht
  have hlt : t < n := by
    unfold basicOk at hb
    simp only [Bool.and_eq_true, decide_eq_true_eq] at hb
    exact hb.1
  have h1 := List.all_eq_true.1 h t (List.mem_range.2 hlt)
  rw [hb] at h1
  simp only [Bool.not_true, Bool.false_or] at h1
  have hu := hi.1
  rw [hd] at hu
  unfold fieldsB at h1
  rw [hu] at h1
  exact tyB_isSome (List.all_eq_true.1 h1 f hfm)
theorem cells_of {P : Program} {n : Nat} (t : TypeId) (i : TI) (h : tyB P n t = some i) : P.cellsOf t = i.size := by
  obtain ⟨_, _, inf, _, hinf, hs, _⟩ := tyB_some h
  unfold Program.cellsOf
  rw [hinf]
  exact hs
def LB (f : Func) : LC := match f.body with | some c => lite c | none => .skip
theorem fnOk_of {C : Cx} {f : FuncId} {fn : Func} (h : C.P.funcs[f]? = some fn) (hb : (fn.body.isSome && !(fn.name == "runtime.NumGoroutine")) = true) : FnOk C f (LB fn) fn.ntmps fn.results.toList := by
  simp only [Bool.and_eq_true, Bool.not_eq_true'] at hb
  obtain ⟨c, hc⟩ := Option.isSome_iff_exists.1 hb.1
  exact ⟨fn, c, h, hc, hb.2, by unfold LB; rw [hc], rfl, rfl⟩
def bodyB (C : Cx) (fn : Func) : Bool := match fn.body with | some c => codeOk C fn.ntmps c | none => false
theorem bodyOk_of {C : Cx} {f : FuncId} {fn : Func} {p : FuncId → Bool} {q : Nat → Option UL} (h : C.P.funcs[f]? = some fn) (hb : bodyB (C.wp p q) fn = true) : BodyOk C f p q := by
  refine ⟨fun fn' c h1 h2 => ?_⟩
  rw [h] at h1
  injection h1 with h1
  subst h1
  unfold bodyB at hb
  rw [h2] at hb
  exact hb
theorem pure_fn {C : Cx} (hC : C.Ok) {f : FuncId} {fn : Func} (h : C.P.funcs[f]? = some fn) (hn : (fn.body.isSome && !(fn.name == "runtime.NumGoroutine")) = true) (p : FuncId → Bool) (q : Nat → Option UL) (hb : bodyB (C.wp p q) fn = true) {args : List AVal} (hlen : args.length ≤ fn.ntmps) {r : AVal}
    (hw : aC (C.wp p q) fn.ntmps (LB fn) (fun e fr T => isRet e ∧ match aRes C fr T fn.results.toList with | some (sd, v) => sd ∧ era v = r ∧ Closed r | none => False) (frame0 args) []) : APure C f args r :=
  apure_intro hC (fnOk_of h hn) p q (bodyOk_of h hb) hlen hw
theorem acall_fn {C : Cx} (hC : C.Ok) {f : FuncId} {fn : Func} (h : C.P.funcs[f]? = some fn) (hn : (fn.body.isSome && !(fn.name == "runtime.NumGoroutine")) = true) (p : FuncId → Bool) (q : Nat → Option UL) (hb : bodyB (C.wp p q) fn = true) {args : List AVal} (hlen : args.length ≤ fn.ntmps) {S S' : St} {r : AVal}
    (hw : aC (C.wp p q) fn.ntmps (LB fn) (fun e fr T => isRet e ∧ match aRes C fr T fn.results.toList with | some (sd, v) => sd ∧ v = r ∧ T = S' | none => False) (frame0 args) S) : ACall C f args S r S' :=
  acall_intro hC (fnOk_of h hn) p q (bodyOk_of h hb) hlen hw
theorem APure.wp {C : Cx} {f : FuncId} {args : List AVal} {r : AVal} (h : APure C f args r) (p : FuncId → Bool) (q : Nat → Option UL) : APure (C.wp p q) f args r := ⟨h.callable, h.ok⟩
theorem ACall.wp {C : Cx} {f : FuncId} {args : List AVal} {S S' : St} {r : AVal} (h : ACall C f args S r S') (p : FuncId → Bool) (q : Nat → Option UL) : ACall (C.wp p q) f args S r S' := ⟨h.callable, h.ok⟩
theorem ACall.callX {C : Cx} {f : FuncId} {args : List AVal} {S S' : St} {r : AVal} {p : FuncId → Bool} {q : Nat → Option UL} (h : ACall C f args S r S') (hp : p f = false) : CallX (C.wp p q) f args S r S' :=
  ⟨.inl (h.wp p q), fun e => absurd (show p f = true from e) (by rw [hp]; decide)⟩
theorem APure.callW {C : Cx} {p : FuncId → Bool} {q : Nat → Option UL} (hG : GClosed C) {f : FuncId} {args as : List AVal} {r : AVal} (h : APure C f args r) {S : St} (he : args = as.map era) (hc : ∀ a ∈ args, Closed a) : CallX (C.wp p q) f as S r S :=
  (h.wp p q).callX (C := C.wp p q) hG he hc S
theorem AExt.callX {C : Cx} {f : FuncId} {args : List AVal} {S : St} {r : AVal} {p : FuncId → Bool} {q : Nat → Option UL} (h : AExt C f args r) : CallX (C.wp p q) f args S r S :=
  have h' : AExt (C.wp p q) f args r := ⟨h.ex⟩
  ⟨.inr ⟨rfl, h'⟩, fun _ => ⟨rfl, fun _ => .inr ⟨rfl, h'⟩⟩⟩
theorem GClosed.wp {C : Cx} (h : GClosed C) (p : FuncId → Bool) (q : Nat → Option UL) : GClosed (C.wp p q) := h
attribute [go_sem] ofConst ofCell Fr.put aLoad aStore aIndexAddr aIndex aFieldAddr aField aSlice toBd aConvert nilEq nilKind aBin intBin strBin aUn aLen aAppend aCopy aBuiltin srcOf ofCells TI.isAgg isAggD aRes resVs resV isRet cutTag era setElems fillCells
theorem wp_T (C : Cx) (p : FuncId → Bool) (q : Nat → Option UL) : (C.wp p q).T = C.T := rfl
theorem wp_P (C : Cx) (p : FuncId → Bool) (q : Nat → Option UL) : (C.wp p q).P = C.P := rfl
theorem wp_G (C : Cx) (p : FuncId → Bool) (q : Nat → Option UL) : (C.wp p q).G = C.G := rfl
attribute [go_sem] wp_T wp_P wp_G
end
end Go.Am
