/- The abstract layer: a region that draws its order does what it does in the order of the text. -/
import Derived.Test.YtddhddkcfbdheaaGreatAmRun
set_option linter.unusedVariables false
set_option linter.unusedSimpArgs false
namespace Go.Am
open Go

noncomputable section
open Classical

/-- May they change places, when the boxes B are kept? -/
def swapC (C : Cx) (f : Option UL) (x y : Oper) : Bool :=
  match f with
  | none => false
  | some U => (Nat.beq (cls C x.op) 1 && inU U x.dst y.dst) || (Nat.beq (cls C y.op) 1 && inU U y.dst x.dst) || (Nat.beq (cls C y.op) 3 && (Nat.beq (cls C x.op) 2 || Nat.beq (cls C x.op) 3))

/-- f: the pairs that may change places. -/
def indepB (C : Cx) (f : Option UL) (ops : Array Oper) (x y : Oper) : Bool :=
  x.apart ops y && ((cls C x.op == 0 || cls C y.op == 0) || (cls C x.op == 1 && cls C y.op == 1) || swapC C f x y)

theorem cls1_move {C : Cx} {op : Op} {g : Nat → AVal} {S S' : St} {out : Out} (hc : cls C op = 1) (h : aStep C op g S = some out) (hS : ∀ b, loadBox C op g = some b → S'[b]? = S[b]?) :
    aStep C op g S' = some ⟨out.sd, out.r, S'⟩ := by
  cases op <;> simp only [cls] at hc <;> try (simp at hc; done)
  case load t x =>
    simp only [aStep, loadBox] at h hS ⊢
    unfold aLoad at h ⊢
    split at h
    · cases h
    · next i hi =>
      split at h
      · next cs hx =>
        injection h with h; subst h
        rfl
      · next b off hx =>
        rw [hx] at hS
        rw [hS b rfl]
        split at h
        · next bs tb hb =>
          injection h with h; subst h
          rfl
        · cases h
      · cases h
  case lookup t x k ok =>
    simp only [aStep, loadBox] at h hS ⊢
    unfold aLookup at h ⊢
    split at h
    · cases h
    · next i hi =>
      split at h
      · split at h
        · cases h
        · next j hj =>
          split at h
          · injection h with h; subst h
            rfl
          · next b hx =>
            rw [hx] at hS
            rw [hS b rfl]
            split at h
            · next es c hb =>
              injection h with h; subst h
              rfl
            · cases h
          · cases h
      · cases h
  case call c =>
    split at hc
    · exact absurd hc (clsB_ne1 _ _ _)
    · split at hc <;> cases hc
    · cases hc

theorem StepX.move1 {C : Cx} {o : Oper} {g : Nat → AVal} {S S' S2 : St} {r : AVal} (h : StepX C o g S r S') (hc : cls C o.op = 1) (hS : ∀ b, loadBox C o.op g = some b → S2[b]? = S[b]?) : StepX C o g S2 r S2 := by
  cases h with
  | step out h hs => exact .step ⟨out.sd, out.r, S2⟩ (cls1_move hc h hS) hs
  | call x xs ts f as bs r S' ho hf h =>
    rw [ho] at hc
    simp only [cls] at hc
    split at hc
    · cases ‹_ = Callee.builtin _›
    · split at hc <;> cases hc
    · cases hc
  | yield x xs ts i r S' ho hf h =>
    rw [ho] at hc
    simp only [cls] at hc
    split at hc
    · cases ‹_ = Callee.builtin _›
    · split at hc <;> cases hc
    · cases hc
  | fillA k t i ho hi hk => simp [ho, cls] at hc
  | fillM k t ho hk => simp [ho, cls] at hc
  | boxI t x ho hs => simp [ho, cls] at hc

theorem loadBox_congr {C : Cx} {op : Op} {g g' : Nat → AVal} (h : ∀ x ∈ op.operands, aEval C g x = aEval C g' x) : loadBox C op g = loadBox C op g' := by
  cases op <;> try rfl
  case load t x => simp only [loadBox, h x (by simp [Op.operands])]
  case lookup t x y b => simp only [loadBox, h x (by simp [Op.operands])]


def opAt (ops : Array Oper) (i : Nat) : Oper := (ops[i]?).getD default

def reachB (ops : Array Oper) : Nat → Nat → Nat → Bool
  | 0, _, _ => false
  | f + 1, j, i => (opAt ops i).after.any fun e => Region.binds .any e && (e.on == j || reachB ops f j e.on)

/-- The operations of a region that may change places, may. -/
def okR (C : Cx) (f : Option UL) (ops : Array Oper) : Bool :=
  (List.range ops.size).all fun i => ((opAt ops i).after.all fun e => !Region.binds .any e || decide (e.on < i)) &&
    (List.range i).all fun j => indepB C f ops (opAt ops j) (opAt ops i) || reachB ops ops.size j i

section
variable {C : Cx} {ops : Array Oper} {N : Nat} {m : Md}

theorem upd_comm (g : Nat → AVal) {d1 d2 : Option Nat} (v1 v2 : AVal) (h : ∀ d, d1 = some d → d2 ≠ some d) : upd (upd g d1 v1) d2 v2 = upd (upd g d2 v2) d1 v1 := by
  cases d1 with
  | none => rfl
  | some a =>
    cases d2 with
    | none => rfl
    | some b =>
      have hne : a ≠ b := fun e => h a rfl (by rw [e])
      funext t
      simp only [upd]
      by_cases e1 : t = b
      · subst e1; rw [if_pos rfl, if_neg (Ne.symm hne), if_pos rfl]
      · rw [if_neg e1, if_neg e1]

theorem aEval_upd {g : Nat → AVal} {d : Option Nat} {v : AVal} {y : Oper} (h : ∀ k, d = some k → k ∉ y.looksAt ops) : ∀ x ∈ y.op.operands, aEval C (upd g d v) x = aEval C g x := by
  intro x hx
  refine aEval_congr fun t ht => ?_
  cases d with
  | none => rfl
  | some k =>
    have : t ≠ k := fun e => h k rfl (by
      subst e; subst ht
      simp only [Oper.looksAt, List.mem_append, List.mem_filterMap]
      exact .inl ⟨.tmp t, Array.mem_toList_iff.2 hx, rfl⟩)
    simp only [upd, if_neg this]

theorem wantedA_upd {g : Nat → AVal} {d : Option Nat} {v : AVal} {y : Oper} (h : ∀ k, d = some k → k ∉ y.looksAt ops) : wantedA ops y (upd g d v) = wantedA ops y g := by
  unfold wantedA
  cases hg : y.guard with
  | none => rfl
  | some jw =>
    obtain ⟨j, w⟩ := jw
    simp only
    cases hd : (ops[j]?).bind (·.dst) with
    | none => rfl
    | some s =>
      simp only
      cases d with
      | none => rfl
      | some k =>
        have : s ≠ k := fun e => h k rfl (by subst e; simp [Oper.looksAt, hg, hd])
        simp only [upd, if_neg this]

theorem BOk.congr {o : Oper} {g g' : Nat → AVal} {S S' : St} {r : AVal} (h : BOk C m o g S r S') (hg : ∀ x ∈ o.op.operands, aEval C g x = aEval C g' x) : BOk C m o g' S r S' := by
  cases m with
  | none => trivial
  | some BH =>
    obtain ⟨U, B, H⟩ := BH
    obtain ⟨h1, h2, h3, h4⟩ := h
    refine ⟨fun b hb => h1 b (by rw [loadBox_congr hg]; exact hb), h2, fun hc => ?_, fun hc => ⟨(h4 hc).1, fun L hL => ((h4 hc).2 L hL).frame hg⟩⟩
    obtain ⟨k, x, e1, e2, e3, e4, e5⟩ := h3 hc
    exact ⟨k, x, e1, e2, e3, e4, fun U hU => (e5 U hU).frame hg⟩

theorem cls_cases (C : Cx) (op : Op) : cls C op = 0 ∨ cls C op = 1 ∨ cls C op = 2 ∨ cls C op = 3 := by
  cases op <;> simp only [cls] <;> try (first | exact .inl rfl | exact .inr (.inl rfl) | exact .inr (.inr (.inl rfl)) | exact .inr (.inr (.inr rfl)) | (simp; done))
  split
  · unfold clsB
    split
    · split <;> simp
    all_goals simp
  · split <;> simp
  · simp

theorem hole_ne {S : St} {k b : Nat} {x : ABox} (hx : x ≠ .hole) (hk : S[k]? = some .hole) (hb : (S.set k x)[b]? = S[b]?) : b ≠ k := by
  rintro rfl
  rw [List.getElem?_set_self (List.getElem?_eq_some_iff.1 hk).1, hk] at hb
  injection hb with hb
  exact hx hb

theorem set_keep {S S' : St} {k b : Nat} {x : ABox} (hk : S[k]? = some .hole) (hk' : S'[k]? = some .hole) (h : S'[b]? = S[b]?) : (S'.set k x)[b]? = (S.set k x)[b]? := by
  by_cases e : k = b
  · subst e
    rw [List.getElem?_set_self (List.getElem?_eq_some_iff.1 hk').1, List.getElem?_set_self (List.getElem?_eq_some_iff.1 hk).1]
  · rw [List.getElem?_set_ne e, List.getElem?_set_ne e, h]

/-- What looks at no box, or reads one, and writes none. -/
theorem BOk.same {o : Oper} {g : Nat → AVal} {S S' : St} {r : AVal} (h : BOk C m o g S r S') (hc : cls C o.op = 0 ∨ cls C o.op = 1) (U : St) : BOk C m o g U r U := by
  cases m with
  | none => trivial
  | some BH =>
    refine ⟨h.1, fun _ _ _ => rfl, ?_, ?_⟩
    · intro e
      rcases hc with hc | hc <;> rw [hc] at e <;> cases e
    · intro e
      rcases hc with hc | hc <;> rw [hc] at e <;> cases e

/-- Two steps, the other way about. -/
theorem step_swap {x y : Oper} {g : Nat → AVal} {S S1 S2 : St} {r r2 : AVal} (hcl : ((cls C x.op = 0 ∨ cls C y.op = 0) ∨ (cls C x.op = 1 ∧ cls C y.op = 1)) ∨ swapC C (m.map (·.1)) x y = true)
    (hx : StepX C x g S r S1) (hbx : BOk C m x g S r S1) (hy : StepX C y g S1 r2 S2) (hby : BOk C m y g S1 r2 S2) :
    ∃ S3, (StepX C y g S r2 S3 ∧ BOk C m y g S r2 S3) ∧ StepX C x g S3 r S2 ∧ BOk C m x g S3 r S2 := by
  by_cases x0 : cls C x.op = 0
  · obtain ⟨e, hall⟩ := hx.pure x0
    subst e
    exact ⟨S2, ⟨hy, hby⟩, hall S2, hbx.same (.inl x0) _⟩
  by_cases y0 : cls C y.op = 0
  · obtain ⟨e, hall⟩ := hy.pure y0
    subst e
    exact ⟨S, ⟨hall S, hby.same (.inl y0) _⟩, hx, hbx⟩
  rcases hcl with ((h | h) | ⟨x1, y1⟩) | hsw
  · exact absurd h x0
  · exact absurd h y0
  · have e1 := hx.reads x1
    subst e1
    have e2 := hy.reads y1
    subst e2
    exact ⟨_, ⟨hy, hby⟩, hx, hbx⟩
  cases m with
  | none => cases hsw
  | some BH =>
    obtain ⟨W, B, H⟩ := BH
    simp only [swapC, Option.map_some, Bool.or_eq_true, Bool.and_eq_true] at hsw
    rcases hsw with (⟨h1, hu⟩ | ⟨h1, hu⟩) | ⟨h3, hx23⟩
    · have x1 := Nat.eq_of_beq_eq_true h1
      have e1 := hx.reads x1
      subst e1
      exact ⟨S2, ⟨hy, hby⟩, hx.move1 x1 (fun b hb => hby.2.1 _ (hbx.1 b hb) (inU_ok hu)), hbx.same (.inr x1) _⟩
    · have y1 := Nat.eq_of_beq_eq_true h1
      have e2 := hy.reads y1
      subst e2
      exact ⟨S, ⟨hy.move1 y1 (fun b hb => (hbx.2.1 _ (hby.1 b hb) (inU_ok hu)).symm), hby.same (.inr y1) _⟩, hx, hbx⟩
    · have y3 := Nat.eq_of_beq_eq_true h3
      obtain ⟨k, bx, k1, k2, k3, rfl, k5⟩ := hby.2.2.1 y3
      rcases hx23 with x2 | x3
      · replace x2 := Nat.eq_of_beq_eq_true x2
        obtain ⟨q1, q2⟩ := hbx.2.2.2 x2
        have hSk : S[k]? = some .hole := q1 _ k1 k3
        refine ⟨S.set k bx, ⟨k5 S hSk, hby.1, fun b hb hu => ?_, fun _ => ⟨k, bx, k1, k2, hSk, rfl, k5⟩, fun h => by rw [y3] at h; cases h⟩, ?_, hbx.1, fun b hb hu => set_keep hSk k3 (hbx.2.1 b hb hu), fun h => (by rw [x2] at h; cases h), fun _ => ⟨fun e he hh => ?_, fun L hL => ?_⟩⟩
        · exact List.getElem?_set_ne (Ne.symm (hole_ne k2 k3 (hby.2.1 b hb hu)))
        · exact q2 [(k, bx)] (fun e he => by rw [List.mem_singleton] at he; subst he; exact ⟨k1, hSk⟩)
        · have hne : k ≠ e.1 := by
            intro e0
            rw [← e0, List.getElem?_set_self (List.getElem?_eq_some_iff.1 k3).1] at hh
            injection hh with hh
            exact k2 hh
          rw [List.getElem?_set_ne hne] at hh ⊢
          exact q1 e he hh
        · refine q2 ((k, bx) :: L) (fun e he => ?_)
          rcases List.mem_cons.1 he with rfl | he
          · exact ⟨k1, hSk⟩
          · obtain ⟨e1, e2⟩ := hL e he
            refine ⟨e1, ?_⟩
            have hne : k ≠ e.1 := by
              rintro rfl
              rw [List.getElem?_set_self (List.getElem?_eq_some_iff.1 hSk).1] at e2
              injection e2 with e2
              exact k2 e2
            rwa [List.getElem?_set_ne hne] at e2
      · replace x3 := Nat.eq_of_beq_eq_true x3
        obtain ⟨j, bj, j1, j2, j3, rfl, j5⟩ := hbx.2.2.1 x3
        have hne : j ≠ k := by
          rintro rfl
          rw [List.getElem?_set_self (List.getElem?_eq_some_iff.1 j3).1] at k3
          injection k3 with k3
          exact j2 k3
        have hSk : S[k]? = some .hole := by rwa [List.getElem?_set_ne hne] at k3
        have hSj : (S.set k bx)[j]? = some .hole := by rw [List.getElem?_set_ne (Ne.symm hne)]; exact j3
        have hcomm : (S.set k bx).set j bj = (S.set j bj).set k bx := List.set_comm _ _ (Ne.symm hne)
        refine ⟨S.set k bx, ⟨k5 S hSk, hby.1, fun b hb hu => ?_, fun _ => ⟨k, bx, k1, k2, hSk, rfl, k5⟩, fun h => by rw [y3] at h; cases h⟩, ?_, hbx.1, fun b hb hu => ?_, fun _ => ⟨j, bj, j1, j2, hSj, hcomm.symm, j5⟩, fun h => by rw [x3] at h; cases h⟩
        · exact List.getElem?_set_ne (Ne.symm (hole_ne k2 k3 (hby.2.1 b hb hu)))
        · rw [← hcomm]; exact j5 _ hSj
        · rw [← hcomm]
          exact List.getElem?_set_ne (Ne.symm (hole_ne j2 j3 (hbx.2.1 b hb hu)))

theorem ARun.swap {x y : Oper} {l : List Oper} {g g' : Nat → AVal} {S S' : St} (hi : indepB C (m.map (·.1)) ops x y = true) (h : ARun C ops N m (x :: y :: l) g S g' S') : ARun C ops N m (y :: x :: l) g S g' S' := by
  simp only [indepB, Bool.and_eq_true, Bool.or_eq_true, beq_iff_eq] at hi
  obtain ⟨hap, hcl⟩ := hi
  obtain ⟨a1, a2, a3⟩ := Oper.apart_spec hap
  cases h with
  | run _ _ _ _ r S1 _ _ hw hd hx hbx t =>
    cases t with
    | run _ _ _ _ r2 S2 _ _ hw2 hd2 hy hby t2 =>
      rw [wantedA_upd a1] at hw2
      obtain ⟨S3, ⟨k1, k1b⟩, k2, k2b⟩ := step_swap hcl hx hbx (hy.frame (aEval_upd a1)) (hby.congr (aEval_upd a1))
      refine .run y _ g S r2 S3 _ _ hw2 hd2 k1 k1b (.run x _ _ S3 r S2 _ _ (by rw [wantedA_upd a3]; exact hw) hd (k2.frame fun z hz => (aEval_upd a3 z hz).symm) (k2b.congr fun z hz => (aEval_upd a3 z hz).symm) ?_)
      rw [← upd_comm g r r2 a2]
      exact t2
    | skip _ _ _ _ _ _ hw2 hd2 t2 =>
      rw [wantedA_upd a1] at hw2
      refine .skip y _ g S _ _ hw2 hd2 (.run x _ _ S r S1 _ _ (by rw [wantedA_upd a3]; exact hw) hd (hx.frame fun z hz => (aEval_upd a3 z hz).symm) (hbx.congr fun z hz => (aEval_upd a3 z hz).symm) ?_)
      rw [← upd_comm g r (.raw undef) a2]
      exact t2
  | skip _ _ _ _ _ _ hw hd t =>
    cases t with
    | run _ _ _ _ r2 S2 _ _ hw2 hd2 hy hby t2 =>
      rw [wantedA_upd a1] at hw2
      refine .run y _ g S r2 S2 _ _ hw2 hd2 (hy.frame (aEval_upd a1)) (hby.congr (aEval_upd a1)) (.skip x _ _ S2 _ _ (by rw [wantedA_upd a3]; exact hw) hd ?_)
      rw [← upd_comm g (.raw undef) r2 a2]
      exact t2
    | skip _ _ _ _ _ _ hw2 hd2 t2 =>
      rw [wantedA_upd a1] at hw2
      refine .skip y _ g S _ _ hw2 hd2 (.skip x _ _ S _ _ (by rw [wantedA_upd a3]; exact hw) hd ?_)
      rw [← upd_comm g (.raw undef) (.raw undef) a2]
      exact t2

theorem ARun.front {i : Nat} {post : List Nat} : ∀ (pre : List Nat) {g g' : Nat → AVal} {S S' : St}, (∀ j ∈ pre, indepB C (m.map (·.1)) ops (opAt ops j) (opAt ops i) = true) → ARun C ops N m ((pre ++ i :: post).map (opAt ops)) g S g' S' →
    ARun C ops N m ((i :: (pre ++ post)).map (opAt ops)) g S g' S' := by
  intro pre
  induction pre with
  | nil => intro g g' S S' _ h; exact h
  | cons p pre ih =>
    intro g g' S S' hall h
    simp only [List.cons_append, List.map_cons] at h ⊢
    refine ARun.swap (hall p (List.mem_cons_self ..)) ?_
    have hall' : ∀ j ∈ pre, indepB C (m.map (·.1)) ops (opAt ops j) (opAt ops i) = true := fun j hj => hall j (List.mem_cons_of_mem _ hj)
    cases h with
    | run _ _ _ _ r S1 _ _ hw hd hx hbx t => exact .run _ _ _ _ r S1 _ _ hw hd hx hbx (ih hall' t)
    | skip _ _ _ _ _ _ hw hd t => exact .skip _ _ _ _ _ _ hw hd (ih hall' t)

structure Inv (ops : Array Oper) (listed : Array Bool) (rem : List Nat) : Prop where
  size : listed.size = ops.size
  sorted : rem.Pairwise (· < ·)
  mem : ∀ i, i ∈ rem ↔ listed[i]? = some false
  down : ∀ k, listed[k]? = some true → ∀ e ∈ (opAt ops k).after.toList, Region.binds .any e = true → listed[e.on]? = some true

theorem reach_listed {listed : Array Bool} (hdown : ∀ k, listed[k]? = some true → ∀ e ∈ (opAt ops k).after.toList, Region.binds .any e = true → listed[e.on]? = some true) {j : Nat} :
    ∀ (f i : Nat), (∀ e ∈ (opAt ops i).after.toList, Region.binds .any e = true → listed[e.on]? = some true) → reachB ops f j i = true → listed[j]? = some true := by
  intro f
  induction f with
  | zero => intro i _ h; simp [reachB] at h
  | succ f ih =>
    intro i hi h
    simp only [reachB, Array.any_eq_true', Bool.and_eq_true, Bool.or_eq_true, beq_iff_eq] at h
    obtain ⟨e, he, hb, h⟩ := h
    have hl := hi e (Array.mem_toList_iff.2 he) hb
    rcases h with h | h
    · rw [← h]; exact hl
    · exact ih e.on (hdown _ hl) h

theorem any_of_run (hC : C.Ok) (hok : okR C (m.map (·.1)) ops = true) {g' : Nat → AVal} {S' : St} : ∀ (fuel : Nat) (listed : Array Bool) (rem : List Nat) (g : Nat → AVal) (S : St), Inv ops listed rem → rem.length ≤ fuel → ARun C ops N m (rem.map (opAt ops)) g S g' S' →
    ∀ (F : Fence) (n : Nat), FW F → ∀ (E : Env) (a : Act), Wf C.G E → E.S = S → RF E N g a → ∀ (Q : Exit → Act → World → Prop), (∀ E' a', Ext E E' → Wf C.G E' → E'.S = S' → RF E' N g' a' → Q .normal a' E'.w) →
      wpAnyIn F n C.P .any ops Q fuel listed a E.w := by
  intro fuel
  have hback : ∀ i, i < ops.size → (∀ e ∈ (opAt ops i).after.toList, Region.binds .any e = true → e.on < i) ∧ ∀ j, j < i → indepB C (m.map (·.1)) ops (opAt ops j) (opAt ops i) = true ∨ reachB ops ops.size j i = true := by
    intro i hi
    simp only [okR, List.all_eq_true, List.mem_range, Bool.and_eq_true, Bool.or_eq_true, Array.all_eq_true', Bool.not_eq_true', decide_eq_true_eq] at hok
    obtain ⟨h1, h2⟩ := hok i hi
    refine ⟨fun e he hb => ?_, h2⟩
    rcases h1 e (Array.mem_toList_iff.1 he) with h | h
    · rw [hb] at h; cases h
    · exact h
  induction fuel with
  | zero =>
    intro listed rem g S hI hlen hrun F n hF E a hE hS hr Q hQ
    have : rem = [] := List.eq_nil_of_length_eq_zero (by omega)
    subst this
    simp only [List.map_nil] at hrun
    cases hrun
    refine ⟨?_, hQ E a (Ext.refl E) hE hS hr⟩
    rw [List.eq_nil_iff_forall_not_mem]
    intro i hi
    simp only [Region.ready, List.mem_filter, List.mem_range, Bool.and_eq_true, Bool.not_eq_true'] at hi
    obtain ⟨h1, h2, _⟩ := hi
    have : listed[i]? = some false := by
      have hlt : i < listed.size := by rw [hI.size]; exact h1
      rw [Array.getElem?_eq_getElem hlt]
      simp only [Array.getD, hlt, dite_true] at h2
      exact congrArg some h2
    exact absurd ((hI.mem i).2 this) (by simp)
  | succ fuel ih =>
    intro listed rem g S hI hlen hrun F n hF E a hE hS hr Q hQ
    have ready_mem : ∀ i, i ∈ Region.ready .any ops listed ↔ i ∈ rem ∧ ∀ e ∈ (opAt ops i).after.toList, Region.binds .any e = true → listed[e.on]? = some true := by
      intro i
      simp only [Region.ready, List.mem_filter, List.mem_range, Bool.and_eq_true, Bool.not_eq_true', hI.mem]
      constructor
      · rintro ⟨h1, h2, h3⟩
        have hlt : i < listed.size := by rw [hI.size]; exact h1
        refine ⟨?_, fun e he hb => ?_⟩
        · rw [Array.getElem?_eq_getElem hlt]
          simp only [Array.getD, hlt, dite_true] at h2
          exact congrArg some h2
        · rw [Array.getElem?_eq_getElem h1] at h3
          simp only [Option.map_some, Option.getD_some, Array.all_eq_true', Bool.or_eq_true, Bool.not_eq_true'] at h3
          have he' : e ∈ ops[i].after := by
            have : opAt ops i = ops[i] := by simp [opAt, Array.getElem?_eq_getElem h1]
            rw [this] at he; exact Array.mem_toList_iff.1 he
          rcases h3 e he' with h | h
          · rw [hb] at h; cases h
          · rw [Array.getD_eq_getD_getElem?] at h
            rcases hx : listed[e.on]? with _ | b
            · rw [hx] at h; cases h
            · rw [hx] at h; simp only [Option.getD_some] at h; rw [h]
      · rintro ⟨h1, h2⟩
        have hlt : i < listed.size := by
          rcases Nat.lt_or_ge i listed.size with h | h
          · exact h
          · rw [Array.getElem?_eq_none h] at h1; cases h1
        have hlo : i < ops.size := by rw [← hI.size]; exact hlt
        refine ⟨hlo, ?_, ?_⟩
        · rw [Array.getD_eq_getD_getElem?, h1]; rfl
        · rw [Array.getElem?_eq_getElem hlo]
          simp only [Option.map_some, Option.getD_some, Array.all_eq_true', Bool.or_eq_true, Bool.not_eq_true']
          intro e he
          cases hb : Region.binds .any e with
          | false => exact .inl rfl
          | true =>
            have he' : e ∈ (opAt ops i).after.toList := by
              have : opAt ops i = ops[i] := by simp [opAt, Array.getElem?_eq_getElem hlo]
              rw [this]; exact Array.mem_toList_iff.2 he
            right
            rw [Array.getD_eq_getD_getElem?, h2 e he' hb]; rfl
    have lt_of : ∀ i, i ∈ rem → i < ops.size := fun i hi => by
      have := (hI.mem i).1 hi
      rw [← hI.size]
      rcases Nat.lt_or_ge i listed.size with h | h
      · exact h
      · rw [Array.getElem?_eq_none h] at this; cases this
    refine ⟨fun hnone => ?_, fun i hi => ?_⟩
    · -- nothing is ready: nothing is left
      have : rem = [] := by
        match rem, hI, ready_mem, lt_of with
        | [], _, _, _ => rfl
        | i :: rest, hI, ready_mem, lt_of =>
          exfalso
          have hm : i ∈ Region.ready .any ops listed := (ready_mem i).2 ⟨List.mem_cons_self .., fun e he hb => by
            have hlt := (hback i (lt_of i (List.mem_cons_self ..))).1 e he hb
            have hls : e.on < listed.size := by rw [hI.size]; have := lt_of i (List.mem_cons_self ..); omega
            rw [Array.getElem?_eq_getElem hls]
            cases hv : listed[e.on] with
            | true => rfl
            | false =>
              have : e.on ∈ i :: rest := (hI.mem e.on).2 (by rw [Array.getElem?_eq_getElem hls, hv])
              rcases List.mem_cons.1 this with h | h
              · omega
              · have := (List.pairwise_cons.1 hI.sorted).1 _ h; omega⟩
          rw [hnone] at hm; cases hm
      subst this
      simp only [List.map_nil] at hrun
      cases hrun
      exact hQ E a (Ext.refl E) hE hS hr
    · obtain ⟨hir, hedges⟩ := (ready_mem i).1 hi
      obtain ⟨pre, post, rfl⟩ := List.append_of_mem hir
      have hsort := List.pairwise_append.1 hI.sorted
      have hind : ∀ j ∈ pre, indepB C (m.map (·.1)) ops (opAt ops j) (opAt ops i) = true := by
        intro j hj
        have hlt : j < i := hsort.2.2 j hj i (List.mem_cons_self ..)
        rcases (hback i (lt_of i hir)).2 j hlt with h | h
        · exact h
        · have h1 := reach_listed hI.down ops.size i hedges h
          have h2 := (hI.mem j).1 (List.mem_append_left _ hj)
          rw [h1] at h2; cases h2
      have hrun' := ARun.front pre hind hrun
      have hio := lt_of i hir
      have hopi : ops[i]? = some (opAt ops i) := by simp [opAt, Array.getElem?_eq_getElem hio]
      have hls : i < listed.size := by rw [hI.size]; exact hio
      have hI' : Inv ops (listed.setIfInBounds i true) (pre ++ post) := by
        refine ⟨by simp [hI.size], ?_, fun k => ?_, fun k hk e he hb => ?_⟩
        · refine List.pairwise_append.2 ⟨hsort.1, (List.pairwise_cons.1 hsort.2.1).2, fun x hx y hy => hsort.2.2 x hx y (List.mem_cons_of_mem _ hy)⟩
        · by_cases e : i = k
          · subst e
            have hno : i ∉ pre ++ post := by
              intro hm
              rcases List.mem_append.1 hm with h | h
              · have := hsort.2.2 i h i (List.mem_cons_self ..); omega
              · have := (List.pairwise_cons.1 hsort.2.1).1 i h; omega
            rw [Array.getElem?_setIfInBounds_self_of_lt hls]
            simp [hno]
          · rw [Array.getElem?_setIfInBounds_ne e, ← hI.mem]
            simp only [List.mem_append, List.mem_cons]
            constructor
            · rintro (h | h)
              · exact .inl h
              · exact .inr (.inr h)
            · rintro (h | h | h)
              · exact .inl h
              · exact absurd h.symm e
              · exact .inr h
        · have hon : listed[e.on]? = some true := by
            by_cases ek : i = k
            · subst ek; exact hedges e he hb
            · rw [Array.getElem?_setIfInBounds_ne ek] at hk
              exact hI.down k hk e he hb
          by_cases ek : i = e.on
          · rw [← ek, Array.getElem?_setIfInBounds_self_of_lt hls]
          · rw [Array.getElem?_setIfInBounds_ne ek]; exact hon
      have hlen' : (pre ++ post).length ≤ fuel := by simp at hlen ⊢; omega
      unfold wpOpIn
      rw [hopi]
      simp only [List.map_cons] at hrun'
      cases hrun' with
      | run _ _ _ _ r S1 _ _ hw hd hx hbx t =>
        simp only
        rw [if_pos (wantedA_ok hr hw)]
        refine hx.ok hC F n hF E N a hE hS hr _ _ fun E' x hxt hE' hS' hr' => ?_
        exact ih _ _ _ S1 hI' hlen' t F n hF E' _ hE' hS' ((hr.ext hE hxt).put hd hr') Q fun E2 a2 k1 k2 k3 k4 => hQ E2 a2 (hxt.trans hE k1) k2 k3 k4
      | skip _ _ _ _ _ _ hw hd t =>
        simp only
        rw [if_neg (by rw [wantedA_ok hr hw]; simp)]
        exact ⟨fun f _ => hF.fn f, ih _ _ _ S hI' hlen' t F n hF E _ hE hS (hr.put hd (.raw _)) Q hQ⟩

/-- A region, in whatever order. -/
theorem region_ok (hC : C.Ok) {id : Nat} {draw : Bool} (hok : draw = true → okR C (m.map (·.1)) ops = true) {g g' : Nat → AVal} {S S' : St} (h : ARun C ops N m ops.toList g S g' S') (F : Fence) (n : Nat) (hF : FW F) (E : Env) (a : Act) (hE : Wf C.G E) (hS : E.S = S)
    (hr : RF E N g a) (Q : Exit → Act → World → Prop) (hQ : ∀ E' a', Ext E E' → Wf C.G E' → E'.S = S' → RF E' N g' a' → Q .normal a' E'.w) : (Code.region id ops draw).wpIn F n C.P Q a E.w := by
  have hl : ops.toList = (List.range ops.size).map (opAt ops) := by
    apply List.ext_getElem (by simp)
    intro i h1 h2
    have h3 : i < ops.size := by simpa using h1
    simp [opAt, Array.getElem?_eq_getElem h3]
  cases draw with
  | false =>
    refine wpIn_region (h.sound hC (List.range ops.size) ?_ F n hF E a hE hS hr Q hQ)
    apply List.ext_getElem (by simp)
    intro i h1 h2
    have h3 : i < ops.size := by simpa using h1
    simp [Array.getElem?_eq_getElem h3]
  | true =>
    refine wpIn_region_any hC.mixed ?_
    obtain ⟨k1, k2⟩ := env_grown hE (w' := { E.w with drawn := E.w.drawn + 1 }) ⟨rfl, rfl, rfl, Nat.le_refl _, fun _ _ _ => rfl⟩
    refine any_of_run hC (hok rfl) ops.size _ (List.range ops.size) g S ⟨by simp, List.pairwise_lt_range, fun i => ?_, fun k hk => ?_⟩ (by simp) (hl ▸ h) F n hF { E with w := { E.w with drawn := E.w.drawn + 1 } } a k2 hS (hr.ext hE k1) Q
      (fun E2 a2 e1 e2 e3 e4 => hQ E2 a2 (k1.trans hE e1) e2 e3 e4)
    · simp [Array.getElem?_replicate]
    · simp [Array.getElem?_replicate] at hk
end
end
end Go.Am
