/- The abstract layer, reckoned by the kernel: one operation. -/
import Derived.Test.YtbkfnbnechpolaaDoorAmExec
set_option linter.unusedVariables false
set_option linter.unusedSimpArgs false
namespace Go.Am
open Go

noncomputable section
section
variable {C : Cx} {g : Nat → AVal} {S : St} {out : Out}

theorem cKeysX_ok {t kt et : TypeId} {i : TI} {b : Nat} {k : AVal} {q : List (AVal × AVal) → Bool} {es : List (AVal × AVal)} (h : cKeysX C S t (.map b) k q = true) (hi : C.T t = some i) (hd : i.d = .map kt et)
    (hb : boxX S[b]? = some es) : keysOk C kt k (tagE es) ∧ q es = true := by
  unfold cKeysX at h
  simp only [hi, hd, hb, Bool.and_eq_true] at h
  exact ⟨keysB_ok h.1, h.2⟩

theorem cKeys_lookup {t : TypeId} {x k : AVal} {ok : Bool} (h : (cKeys C S t x k || cKeysX C S t x k (oneX k)) = true) (ha : aLookup C S t x k ok = some out) : out.sd := by
  unfold aLookup at ha
  split at ha
  · cases ha
  · next i hi =>
    split at ha
    · next kt et hd =>
      split at ha
      · cases ha
      · split at ha
        · injection ha with ha; subst ha
          rcases Bool.or_eq_true_iff.1 h with h | h
          · unfold cKeys at h
            simp only [hi, hd] at h
            exact h
          · unfold cKeysX at h
            simp only [hi, hd, Bool.false_eq_true] at h
        · split at ha
          · next hb =>
            injection ha with ha; subst ha
            rcases Bool.or_eq_true_iff.1 h with h | h
            · unfold cKeys at h
              simp only [hi, hd, hb] at h
              exact keysB_ok h
            · unfold cKeysX at h
              simp only [hi, hd, hb, boxX, Bool.false_eq_true] at h
          · split at ha
            · next es hb =>
              injection ha with ha; subst ha
              rcases Bool.or_eq_true_iff.1 h with h | h
              · unfold cKeys at h
                simp only [hi, hd] at h
                cases h
              · exact cKeysX_ok h hi hd hb
            · cases ha
        · cases ha
    · cases ha

theorem cKeys_update {t : TypeId} {x k v : AVal} (h : (cKeys C S t x k || cKeysX C S t x k (freshX k)) = true) (ha : aMapUpdate C S t x k v = some out) : out.sd := by
  unfold aMapUpdate at ha
  split at ha
  · cases ha
  · next i hi =>
    split at ha
    · next kt et hd =>
      split at ha
      · split at ha
        · next hb =>
          injection ha with ha; subst ha
          rcases Bool.or_eq_true_iff.1 h with h | h
          · unfold cKeys at h
            simp only [hi, hd, hb] at h
            exact keysB_ok h
          · unfold cKeysX at h
            simp only [hi, hd, hb, boxX, Bool.false_eq_true] at h
        · next hb =>
          injection ha with ha; subst ha
          rcases Bool.or_eq_true_iff.1 h with h | h
          · unfold cKeys at h
            simp only [hi, hd, hb, Bool.false_eq_true] at h
          · exact cKeysX_ok h hi hd (by rw [hb]; rfl)
        · cases ha
      · cases ha
    · cases ha

theorem cKeys_delete {t : TypeId} {x k : AVal} (h : cKeys C S t x k = true) (ha : aDelete C S t x k = some out) : out.sd := by
  unfold cKeys at h
  unfold aDelete at ha
  split at ha
  · cases ha
  · next i hi =>
    simp only [hi] at h
    split at ha
    · next kt et hd =>
      simp only [hd] at h
      split at ha
      · injection ha with ha; subst ha; exact h
      · split at ha
        · next hb =>
          simp only [hb] at h
          injection ha with ha; subst ha; exact keysB_ok h
        · cases ha
      · cases ha
    · cases ha

theorem cKeys_entry {t : TypeId} {x k : AVal} (h : cKeys C S t x k = true) (ha : aMapEntry C S t x k = some out) : out.sd := by
  unfold cKeys at h
  unfold aMapEntry at ha
  split at ha
  · cases ha
  · next i hi =>
    simp only [hi] at h
    split at ha
    · next kt et hd =>
      simp only [hd] at h
      split at ha
      · cases ha
      · split at ha
        · split at ha
          · next hb =>
            simp only [hb] at h
            injection ha with ha; subst ha; exact keysB_ok h
          · cases ha
        · cases ha
    · cases ha

theorem cEntry_ok {it : AVal} (h : cEntry S it = true) (ha : aEntry S it = some out) : out.sd := by
  unfold cEntry at h
  unfold aEntry at ha
  split at ha
  · split at ha
    · next hk =>
      simp only [hk] at h
      split at ha
      · next hm =>
        simp only [hm] at h
        split at ha
        · split at ha
          · injection ha with ha; subst ha; exact nbeq h
          · cases ha
        · cases ha
      · cases ha
    · cases ha
  · cases ha

theorem cMake_ok {t : TypeId} {l c : AVal} (h : cMake C t l c = true) (ha : aMakeSlice C S t l c = some out) : out.sd := by
  unfold cMake at h
  unfold aMakeSlice at ha
  split at ha
  · cases ha
  · next i hi =>
    simp only [hi] at h
    split at ha
    · next e hd =>
      simp only [hd] at h
      split at ha
      · cases ha
      · next j hj =>
        simp only [hj] at h
        split at ha
        · next k n k' m =>
          simp only [Bool.and_eq_true, decide_eq_true_eq, isI64, beq_iff_eq] at h
          obtain ⟨⟨⟨⟨⟨h1, h2⟩, h3⟩, h4⟩, h5⟩, h6⟩ := h
          injection ha with ha; subst ha; exact ⟨by rw [h1], by rw [h2], h3, h4, h5, h6⟩
        · cases ha
    · cases ha

theorem cBin_ok {op : BinOp} {t : TypeId} {ox oy : Operand} {x y : AVal} (h : cBin C op t x y = true) (hn : ∀ xs ys, ¬ (x = .agg xs ∧ y = .agg ys)) (ha : aBin C S op t ox oy x y = some out) : out.sd := by
  unfold aBin at ha
  split at ha
  · injection ha with ha; subst ha; exact of_decide_eq_true h
  · injection ha with ha; subst ha; exact of_decide_eq_true h
  · next k a k' b h1 h2 =>
    obtain ⟨⟨sd, r⟩, hb, rfl⟩ := Option.map_eq_some_iff.1 ha
    have hk : k = k' := by
      cases op <;> simp only [cBin, kindEq, Bool.and_eq_true, beq_iff_eq] at h <;> first | exact h.1 | (exfalso; revert h1 h2; simp; done)
    refine ⟨hk, ?_⟩
    cases op <;> simp only [intBin, Option.some.injEq, Prod.mk.injEq, reduceCtorEq] at hb
    all_goals obtain ⟨rfl, _⟩ := hb
    all_goals first | trivial | (simp [cBin] at h; exact h.2)
  · next a b =>
    obtain ⟨⟨sd, r⟩, hb, rfl⟩ := Option.map_eq_some_iff.1 ha
    cases op <;> simp only [strBin, Option.some.injEq, Prod.mk.injEq, reduceCtorEq] at hb
    all_goals obtain ⟨rfl, _⟩ := hb
    all_goals first | trivial | exact of_decide_eq_true h
  · split at ha
    · split at ha
      · injection ha with ha; subst ha; trivial
      · injection ha with ha; subst ha; trivial
      · cases ha
    · cases ha
  · next xs ys => exact absurd ⟨rfl, rfl⟩ (hn xs ys)
  · have key : cIfc C t = true := by cases op <;> exact h
    have hex : ∃ i m, C.T t = some i ∧ i.d = .interface m := by
      unfold cIfc at key
      split at key
      · next i hi =>
        split at key
        · next m hd => exact ⟨i, m, hi, hd⟩
        · cases key
      · cases key
    split at ha
    · injection ha with ha; subst ha; exact hex
    · injection ha with ha; subst ha; exact hex
    · cases ha
  · next h1 h2 h3 h4 h5 h6 h7 =>
    have key : cNil C t x y = true := by
      unfold cBin at h
      split at h <;> first | exact h | (exfalso; first | exact h1 _ _ _ _ rfl rfl rfl | exact h1 _ _ _ _ rfl rfl | exact h1 _ _ rfl rfl | exact h1 rfl rfl | exact h2 _ _ _ _ rfl rfl rfl | exact h2 _ _ _ _ rfl rfl | exact h2 _ _ rfl rfl | exact h2 rfl rfl | exact h3 _ _ _ _ rfl rfl rfl | exact h3 _ _ _ _ rfl rfl | exact h3 _ _ rfl rfl | exact h3 rfl rfl | exact h4 _ _ _ _ rfl rfl rfl | exact h4 _ _ _ _ rfl rfl | exact h4 _ _ rfl rfl | exact h4 rfl rfl | exact h5 _ _ _ _ rfl rfl rfl | exact h5 _ _ _ _ rfl rfl | exact h5 _ _ rfl rfl | exact h5 rfl rfl | exact h6 _ _ _ _ rfl rfl rfl | exact h6 _ _ _ _ rfl rfl | exact h6 _ _ rfl rfl | exact h6 rfl rfl | exact h7 _ _ _ _ rfl rfl rfl | exact h7 _ _ _ _ rfl rfl | exact h7 _ _ rfl rfl | exact h7 rfl rfl)
    obtain ⟨i, hi, k1, k2⟩ := cNil_ok key
    simp only [hi] at ha
    split at ha
    · injection ha with ha; subst ha; exact ⟨k1, k2⟩
    · injection ha with ha; subst ha; exact ⟨k1, k2⟩
    · cases ha

/-- Two aggregates held against each other. -/
def xAgg (op : BinOp) (x y : AVal) : Option Bool :=
  match x, y with
  | .agg xs, .agg ys => match op with
    | .eql => some (aeqs xs ys)
    | .neq => some (!aeqs xs ys)
    | _ => none
  | _, _ => none

def isAgg2 (x y : AVal) : Bool :=
  match x, y with
  | .agg _, .agg _ => true
  | _, _ => false

/-- One operation that is no call. -/
def xStep (C : Cx) (g : Nat → AVal) (S : St) (op : Op) : Option (AVal × St) :=
  bif xchk C g S op then
    match op with
    | .binOp op t x y _ => bif isAgg2 (aEval C g x) (aEval C g y) then (xAgg op (aEval C g x) (aEval C g y)).map fun b => (.bool b, S)
      else (aBin C S op t x y (aEval C g x) (aEval C g y)).map fun o => (o.r, o.S)
    | op => (aStep C op g S).map fun o => (o.r, o.S)
  else none

theorem xchk_ok {op : Op} (hnb : ∀ o t x y u, op ≠ .binOp o t x y u) (h : xchk C g S op = true) (ha : aStep C op g S = some out) : out.sd := by
  cases op <;> simp only [xchk] at h <;> try (cases h; done)
  case move x => simp only [aStep, Option.some.injEq] at ha; subst ha; trivial
  case assign x => simp only [aStep, Option.some.injEq] at ha; subst ha; trivial
  case pick c a b =>
    simp only [aStep] at ha
    split at ha
    · injection ha with ha; subst ha; trivial
    · cases ha
  case alloc t =>
    simp only [aStep] at ha
    split at ha
    · injection ha with ha; subst ha; trivial
    · cases ha
  case box t x => simp only [aStep, Option.some.injEq] at ha; subst ha; exact okcB_ok h
  case build t parts =>
    simp only [aStep] at ha
    unfold cBuild at h
    split at ha
    · next i hi =>
      simp only [hi, Bool.and_eq_true] at h
      split at ha
      · injection ha with ha; subst ha
        refine ⟨h.1.1, fun n e hd => ?_, fun p hp => okcB_ok (List.all_eq_true.1 h.2 p hp)⟩
        have := h.1.2
        rw [hd] at this
        exact this
      · cases ha
    · cases ha
  case buildSlice t n parts =>
    simp only [aStep] at ha
    unfold cBuildSlice at h
    split at ha
    · next i hi =>
      simp only [hi] at h
      split at ha
      · next e hd =>
        simp only [hd] at h
        split at ha
        · next j hj =>
          simp only [hj, Bool.and_eq_true, decide_eq_true_eq] at h
          split at ha
          · injection ha with ha; subst ha
            exact ⟨h.1.1, h.1.2, fun p hp => okcB_ok (List.all_eq_true.1 h.2 p hp)⟩
          · cases ha
        · cases ha
      · cases ha
    · cases ha
  case load t x => exact cLoad_ok h ha
  case store t x v => exact cStore_ok h ha
  case nilCheck x =>
    simp only [aStep] at ha
    split at ha <;> first | (cases ha; done) | (injection ha with ha; subst ha; trivial)
  case binOp o t x y u => exact absurd rfl (hnb o t x y u)
  case unOp op t x =>
    simp only [aStep] at ha
    unfold aUn at ha
    split at ha <;> first | (cases ha; done) | (injection ha with ha; subst ha; trivial)
  case convert s d x => exact cConvert_ok h ha
  case sliceToArrayPointer t x =>
    simp only [aStep] at ha
    unfold cS2a at h
    split at ha
    · next i hi =>
      simp only [hi] at h
      split at ha
      · next n e hd =>
        simp only [hd] at h
        split at ha
        · next j hj =>
          simp only [hj] at h
          split at ha
          · next hx =>
            simp only [hx, Bool.and_eq_true, decide_eq_true_eq] at h
            injection ha with ha; subst ha
            exact ⟨nbeq h.1.1.1.1, nbeq h.1.1.1.2, h.1.1.2, h.1.2, fun c hc => List.all_eq_true.1 h.2 c hc⟩
          · next hx =>
            simp only [hx, decide_eq_true_eq] at h
            injection ha with ha; subst ha; exact h
          · cases ha
        · cases ha
      · cases ha
    · cases ha
  case makeInterface t x => simp only [aStep, Option.some.injEq] at ha; subst ha; exact h
  case makeFunc f as bs => simp only [aStep, Option.some.injEq] at ha; subst ha; trivial
  case slice t x lo hi mx => exact cSlice_ok h ha
  case fieldAddr t x k => exact cFieldAddr_ok h ha
  case field t x k => exact cField_ok h ha
  case indexAddr t x y => exact cIndexAddr_ok h ha
  case index t x y => exact cIndex_ok h ha
  case extract x k =>
    simp only [aStep] at ha
    split at ha
    · next vs hv =>
      simp only [hv] at h
      injection ha with ha; subst ha; exact blt_iff.1 h
    · cases ha
  case makeMap t r =>
    simp only [aStep, aMakeMap] at ha
    split at ha
    · injection ha with ha; subst ha; trivial
    · cases ha
  case insert t m k x => exact cKeys_update h ha
  case mapUpdate t m k x => exact cKeys_update h ha
  case lookup t m k ok => exact cKeys_lookup h ha
  case mapEntry t m k => exact cKeys_entry h ha
  case entryStore t m k x =>
    simp only [aStep, aEntryStore] at ha
    split at ha
    · split at ha
      · split at ha
        · injection ha with ha; subst ha; trivial
        · cases ha
      · cases ha
    · cases ha
  case next x b =>
    cases b with
    | false => simp only [aStep] at ha; cases ha
    | true =>
      simp only [aStep, aNextS] at ha
      split at ha
      · split at ha
        · split at ha
          · split at ha
            · injection ha with ha; subst ha; trivial
            · cases ha
          · injection ha with ha; subst ha; trivial
        · cases ha
      · cases ha
  case range t x =>
    simp only [aStep, aRange] at ha
    split at ha
    · cases ha
    · split at ha
      · split at ha
        · injection ha with ha; subst ha; trivial
        · cases ha
      · split at ha
        · injection ha with ha; subst ha; trivial
        · split at ha
          · injection ha with ha; subst ha; trivial
          · injection ha with ha; subst ha; trivial
          · cases ha
        · cases ha
      · cases ha
  case entry x => exact cEntry_ok h ha
  case makeSlice t l c => exact cMake_ok h ha
  case call c =>
    simp only [aStep] at ha
    split at h
    · next b hb =>
      simp only [hb] at ha
      split at h
      · next e1 e2 =>
        rw [e1, e2] at ha
        simp only [aBuiltin, aLen] at ha
        repeat' (split at ha)
        all_goals first | (cases ha; done) | (injection ha with ha; subst ha; trivial)
      · next e1 e2 =>
        rw [e1, e2] at ha
        simp only [aBuiltin] at ha
        split at h
        · exact cAppend0_ok h ha
        · next hne =>
          split at ha
          · exact (hne _ _ _ _ rfl rfl).elim
          · exact cAppend_ok h ha
      · next e1 e2 =>
        rw [e1, e2] at ha
        simp only [aBuiltin, aCap] at ha
        repeat' (split at ha)
        all_goals first | (cases ha; done) | (injection ha with ha; subst ha; trivial)
      · next e1 e2 => rw [e1, e2] at ha; exact cCopy_ok (tx := 0) h ha
      · next e1 e2 => rw [e1, e2] at ha; exact cKeys_delete h ha
      · simp only [aBuiltin] at ha
        obtain ⟨r, _, rfl⟩ := Option.map_eq_some_iff.1 ha
        trivial
      · simp only [aBuiltin] at ha
        obtain ⟨r, _, rfl⟩ := Option.map_eq_some_iff.1 ha
        trivial
      · cases h
    · cases h

theorem xStep_ok {op : Op} {r : AVal} {S' : St} (h : xStep C g S op = some (r, S')) : ∃ sd, aStep C op g S = some ⟨sd, r, S'⟩ ∧ sd := by
  unfold xStep at h
  cases hc : xchk C g S op with
  | false => rw [hc] at h; cases h
  | true =>
    rw [hc] at h
    simp only [cond_true] at h
    split at h
    · next op t x y u =>
      simp only [xchk] at hc
      cases ha : isAgg2 (aEval C g x) (aEval C g y) with
      | false =>
        rw [ha] at h
        simp only [cond_false] at h
        obtain ⟨o, ho, he⟩ := Option.map_eq_some_iff.1 h
        injection he with e1 e2
        subst e1 e2
        refine ⟨o.sd, ho, cBin_ok hc (fun xs ys e => ?_) ho⟩
        rw [e.1, e.2] at ha
        cases ha
      | true =>
        rw [ha] at h
        simp only [cond_true] at h
        obtain ⟨b, hb, he⟩ := Option.map_eq_some_iff.1 h
        injection he with e1 e2
        subst e1 e2
        unfold isAgg2 at ha
        split at ha
        · next xs ys e1 e2 =>
          rw [e1, e2] at hc hb
          simp only [aStep, e1, e2]
          have hcc : cAgg C t xs ys = true := by cases op <;> exact hc
          unfold cAgg at hcc
          split at hcc
          · next i hi =>
            simp only [Bool.and_eq_true, Bool.not_eq_true'] at hcc
            have hd := aeqs_decide hcc.1.2 hcc.2
            unfold xAgg at hb
            simp only at hb
            split at hb
            · injection hb with hb
              subst hb
              refine Exists.intro (i.isAgg = true ∧ flatT C.P C.T 20 t = true ∧ C.P.eqGuardType C.P.depth t = false ∧ skbs xs i.zero = true ∧ skbs ys i.zero = true) ⟨?_, hcc.1.1.1.1, hcc.1.1.1.2, hcc.1.1.2, hcc.1.2, hcc.2⟩
              simp only [aBin, hi]
              rw [hd]
            · injection hb with hb
              subst hb
              refine Exists.intro (i.isAgg = true ∧ flatT C.P C.T 20 t = true ∧ C.P.eqGuardType C.P.depth t = false ∧ skbs xs i.zero = true ∧ skbs ys i.zero = true) ⟨?_, hcc.1.1.1.1, hcc.1.1.1.2, hcc.1.1.2, hcc.1.2, hcc.2⟩
              simp only [aBin, hi]
              rw [hd]
            · cases hb
          · cases hcc
        · cases ha
    · next hnb =>
      obtain ⟨o, ho, he⟩ := Option.map_eq_some_iff.1 h
      injection he with e1 e2
      subst e1 e2
      exact ⟨o.sd, ho, xchk_ok (fun o t x y u e => hnb o t x y u e) hc ho⟩
end
end
end Go.Am
