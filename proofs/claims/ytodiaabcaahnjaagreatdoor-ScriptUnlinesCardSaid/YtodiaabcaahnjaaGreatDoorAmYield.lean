/- The abstract layer: one round of a range over a function, out of its body. -/
import Derived.Test.YtodiaabcaahnjaaGreatDoorAmCode
set_option linter.unusedVariables false
set_option linter.unusedSimpArgs false
namespace Go.Am
open Go
noncomputable section
open Classical
def putAll (fr : Fr) : List Nat → List AVal → Fr
  | k :: ks, v :: vs => putAll ((k, v) :: fr) ks vs
  | _, _ => fr
def roundEnd (fr : Fr) (N : Nat) (ps : List Nat) (asg body : Code) (tag i : Nat) (T : St) : Exit → Option (AVal × St)
  | .normal => some (.bool true, T.set i (.loop fr N ps asg body .ready none tag))
  | .ret => some (.bool false, T.set i (.loop fr N ps asg body .done (some .ret) tag))
  | .exit id => some (.bool false, T.set i (.loop fr N ps asg body .done (some (.exit id)) tag))
  | _ => none
section
variable {C : Cx} {N : Nat}
theorem putAll_ok {E : Env} : ∀ (ks : List Nat) (vs : List AVal) (xs : List Value) (fr : Fr) (tmps : Array Value), ks.length = vs.length → xs.length = vs.length → (∀ k ∈ ks, k < N) → tmps.size = N →
    (∀ j (h : j < vs.length), R E vs[j] (xs.getD j undef)) → (∀ t, R E (fr.get t) (tmps.getD t undef)) →
    ((ks.zip xs).foldl (fun t (p, v) => t.setIfInBounds p v) tmps).size = N ∧ ∀ t, R E ((putAll fr ks vs).get t) (((ks.zip xs).foldl (fun t (p, v) => t.setIfInBounds p v) tmps).getD t undef) := by
  intro ks
  induction ks with
  | nil => intro vs xs fr tmps _ _ _ hs _ hr; exact ⟨hs, hr⟩
  | cons k ks ih =>
    intro vs xs fr tmps hl hl2 hk hs hv hr
    match vs, xs, hl, hl2 with
    | v :: vs, x :: xs, hl, hl2 =>
      simp only [List.zip_cons_cons, List.foldl_cons, putAll]
      refine ih vs xs _ _ (by simpa using hl) (by simpa using hl2) (fun q hq => hk q (List.mem_cons_of_mem _ hq)) (by simpa using hs) (fun j h => by
        have := hv (j + 1) (by simp only [List.length_cons]; omega)
        simp only [List.getElem_cons_succ, List.getD_eq_getElem?_getD, List.getElem?_cons_succ] at this ⊢
        exact this) (fun t => ?_)
      have hkn := hk k (List.mem_cons_self ..)
      simp only [Fr.get, Array.getD_eq_getD_getElem?]
      split
      · next e =>
        subst e
        rw [Array.getElem?_setIfInBounds_self_of_lt (by rw [hs]; exact hkn)]
        have := hv 0 (by simp)
        simpa using this
      · next e =>
        rw [Array.getElem?_setIfInBounds_ne (fun h => e h.symm)]
        have := hr t
        simpa [Array.getD_eq_getD_getElem?] using this
theorem ayield_ok {fr : Fr} {ps : List Nat} {asg body : Code} {pend : Option Code} {tag i : Nat} {args : List AVal} {S S' : St} {r : AVal} {p : FuncId → Bool} {q : Nat → Option UL}
    (hS : S[i]? = some (.loop fr N ps asg body .ready pend tag)) (hl : ps.length = args.length) (hps : ∀ k ∈ ps, k < N) (hna : noRF asg = true) (hnb : noRF body = true)
    (h : AWp (C.wp p q) N asg (fun e fr1 T1 => e = .normal ∧ ∃ fr0 N0 ps0 asg0 body0 pend0 tag0, T1[i]? = some (.loop fr0 N0 ps0 asg0 body0 .ready pend0 tag0) ∧
      AWp (C.wp p q) N body (fun e _ T2 => ∃ fr0 N0 ps0 asg0 body0 st0 pend0 tag0, T2[i]? = some (.loop fr0 N0 ps0 asg0 body0 st0 pend0 tag0) ∧ roundEnd fr0 N0 ps0 asg0 body0 tag0 i T2 e = some (r, S')) fr1 (T1.set i (.loop fr0 N0 ps0 asg0 body0 .busy pend0 tag0)))
      (putAll fr ps args) S) : AYield C i args S r S' := by
  intro F n hF E vs b hE hES hm hvs hr
  obtain ⟨b', rec, h1, h2, h3, h4, h5, h6, h7, h8, h9⟩ := hE.entry i _ (by rw [hES]; exact hS)
  obtain rfl : b' = b := by rw [hm] at h1; injection h1 with h1; injection h1 with h1; exact h1.symm
  subst h4 h5
  refine ⟨rec.fn, (rec.params.zip vs).foldl (fun tmps (t, a) => tmps.setIfInBounds t a) rec.tmps, rec.assign, rec.body, ?_, ?_⟩
  · have hsz : vs.size = rec.params.size := by rw [hvs, ← hl, ← h3, Array.length_toList]
    simp only [Instr.yield, Instr.getLoop, getObj, Sem.run_bind, Sem.run, h2, Result.andThen_ok, Sem.run_pure, hsz, ne_eq, not_true, if_false]
  · have hz : (rec.params.zip vs).foldl (fun tmps (t, a) => tmps.setIfInBounds t a) rec.tmps = (ps.zip vs.toList).foldl (fun t (p, v) => t.setIfInBounds p v) rec.tmps := by
      rw [← Array.foldl_toList, Array.toList_zip, h3]
    obtain ⟨z1, z2⟩ := putAll_ok (N := N) (E := E) ps args vs.toList fr rec.tmps hl (by simpa using hvs) hps h8 (fun j hj => by
      have := hr j hj
      simpa [List.getD_eq_getElem?_getD, Array.getD_eq_getD_getElem?] using this) h9
    have hrf : RF (E.acts E.w.heap.size) N (putAll fr ps args).get { tmps := (rec.params.zip vs).foldl (fun tmps (t, a) => tmps.setIfInBounds t a) rec.tmps, defers := [] } := by
      refine ⟨by rw [hz]; exact z1, Marks.nil (Nat.le_refl _), fun t => ?_⟩
      rw [hz]
      exact (z2 t).acts _
    have hFi : FW (F.inRound b') := hF.inRound b'
    refine roundIn_of_wpIn (hF.fn _) (wpIn_mono (h (F.inRound b') n hFi (.inr hna) (E.acts E.w.heap.size) _ (hE.acts _) hES hrf) ?_)
    rintro e a1 w1 ⟨E1, fr1, rfl, k2, k3, k4, rfl, fr0, N0, ps0, asg0, body0, pend0, tag0, hT1, hb⟩
    obtain ⟨b1, rec1, m1, m2, m3, m4, m5, m6, m7, m8, m9⟩ := k2.entry i _ hT1
    obtain rfl : b1 = b' := by
      have := (k3.box i _ (by show E.S[i]? = _; rw [hES]; exact hS) rfl).1
      rw [m1] at this
      have h2 : some (some b1) = some (some b') := this.trans hm
      injection h2 with h2; injection h2
    have hbr := run_beginRound (P := C.P) m2 m6
    refine ⟨_, hbr, ?_⟩
    obtain ⟨x3, w3⟩ := env_set k2 m1 (grownBy_putObj' E1.w b1 (.loop { rec1 with state := .busy })) _ (.loop fr0 N0 ps0 asg0 body0 .busy pend0 tag0) hT1 rfl rfl
      (fun hext => ⟨b1, { rec1 with state := .busy }, m1, World.putObj_heap_same (heap_lt m2), m3, m4, m5, rfl, m7, m8, fun t => (m9 t).ext k2 hext⟩)
    refine wpIn_mono (hb (F.inRound b1) n hFi (.inr hnb) _ a1 w3 rfl (k4.ext k2 x3)) ?_
    rintro e a2 w2 ⟨E2, fr2, rfl, j2, j3, j4, fr4, N4, ps4, asg4, body4, st4, pend4, tag4, hT2, he⟩
    obtain ⟨b2, rec2, q1, q2, q3, q4, q5, q6, q7, q8, q9⟩ := j2.entry i _ hT2
    have hS3 : (E1.S.set i (ABox.loop fr0 N0 ps0 asg0 body0 .busy pend0 tag0))[i]? = some (ABox.loop fr0 N0 ps0 asg0 body0 .busy pend0 tag0) := List.getElem?_set_self (List.getElem?_eq_some_iff.1 hT1).1
    obtain rfl : b2 = b1 := by
      have := (j3.box i _ hS3 rfl).1
      rw [q1] at this
      have h2 : some (some b2) = some (some b1) := this.trans m1
      injection h2 with h2; injection h2
    have fin : ∀ (jump : Option Code) (st : LoopState), (if jump.isNone then LoopState.ready else .done) = st → ∃ v w', (Instr.endRound b2 jump).run C.P E2.w = .ok v w' ∧
        ∃ E' v', Ending.returned v = .returned v' ∧ E'.w = w' ∧ Wf C.G E' ∧ Ext E E' ∧ E'.S = E2.S.set i (.loop fr4 N4 ps4 asg4 body4 st jump tag4) ∧ R E' (.bool jump.isNone) v' := by
      intro jump st hst
      have hend := run_endRound (P := C.P) jump q2
      obtain ⟨x5, w5⟩ := env_set j2 q1 (grownBy_putObj' E2.w b2 (.loop { rec2 with state := if jump.isNone then .ready else .done, pending := jump })) _ (.loop fr4 N4 ps4 asg4 body4 st jump tag4) hT2 rfl rfl
        (fun hext => ⟨b2, { rec2 with state := if jump.isNone then .ready else .done, pending := jump }, q1, World.putObj_heap_same (heap_lt q2), q3, q4, q5, hst, rfl, q8, fun t => (q9 t).ext j2 hext⟩)
      have xall := ((k3.trans (hE.acts _) x3).trans (hE.acts _) j3).trans (hE.acts _) x5
      refine ⟨_, _, hend, Env.acts { E2 with w := _, S := _ } E.act, _, rfl, rfl, w5.acts _, ⟨xall.base, xall.im0, rfl, xall.size, xall.os, xall.tape, xall.output, xall.len, xall.free, xall.box, xall.grow, xall.frz⟩, rfl, .bool _⟩
    cases e <;> simp only [roundEnd, Option.some.injEq, Prod.mk.injEq, reduceCtorEq] at he
    case normal =>
      obtain ⟨v, w', f1, E', v', f2, f3, f4, f5, f6, f7⟩ := fin none .ready rfl
      exact ⟨v, w', f1, E', v', f2, f3, f4, f5, by rw [f6]; exact he.2, he.1 ▸ f7⟩
    case ret =>
      obtain ⟨v, w', f1, E', v', f2, f3, f4, f5, f6, f7⟩ := fin (some .ret) .done rfl
      exact ⟨v, w', f1, E', v', f2, f3, f4, f5, by rw [f6]; exact he.2, he.1 ▸ f7⟩
    case exit id =>
      obtain ⟨v, w', f1, E', v', f2, f3, f4, f5, f6, f7⟩ := fin (some (.exit id)) .done rfl
      exact ⟨v, w', f1, E', v', f2, f3, f4, f5, by rw [f6]; exact he.2, he.1 ▸ f7⟩
end
end
end Go.Am
