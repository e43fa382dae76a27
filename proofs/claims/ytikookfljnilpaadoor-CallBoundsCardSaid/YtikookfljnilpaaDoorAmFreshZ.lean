/- The abstract layer: a call that makes a map of its own, in whatever order it was laid. -/
import Derived.Test.YtikookfljnilpaaDoorAmFresh
set_option linter.unusedVariables false
set_option linter.unusedSimpArgs false
namespace Go.Am
open Go

noncomputable section

/-- A map of its own, of plain entries, behind whatever there is. -/
theorem ACall.freshZ {C : Cx} (hG : GClosed C) {f : FuncId} {args : List AVal} {i : Nat} {T : St} {es : List (AVal × AVal)} {c : Nat} {z : ABox} (h : ACall C f args [] (.map i) T) (hT : T[i]? = some z) (hz : mapZ es c z) (hp : plainP es = true) (ha : bels 0 args = true) (S : St) :
    ACall C f args S (.map S.length) (S ++ [.mpx es c]) := by
  refine ⟨h.callable, fun E vs hE hES hvs hrel => ?_⟩
  subst hES
  have hE0 : Wf C.G (E.cut 0) := env_cut hG hE (by simp [belS])
  refine (h.ok (E.cut 0) vs hE0 (by simp [Env.cut]) hvs fun j hj => (hrel j hj).cut hE (bels_iff.1 ha _ (List.getElem_mem hj))).mono ?_
  rintro _ _ ⟨E', v, h1, h2, h3, h4, h5, h6⟩
  subst h1 h2
  have hS' : E'.S[i]? = some z := by rw [h5]; exact hT
  obtain ⟨es', hmx, b, ms, m1, m2, m3, m4⟩ : ∃ es', MX es es' c ∧ mpOk E' i es' c := by
    have he := h3.entry i _ hS'
    rcases hz with rfl | ⟨es0, rfl, hx⟩
    · exact he
    · exact ⟨es0, hx, he⟩
  have hfree : ∀ q, q < E.w.heap.size → E'.free q ∧ E'.w.heap[q]? = E.w.heap[q]? := fun q hq => h4.free q hq (fun j hj => by simp [Env.cut] at hj)
  have hbge : E.w.heap.size ≤ b := by
    rcases Nat.lt_or_ge b E.w.heap.size with hlt | hge
    · exact absurd m1 ((hfree b hlt).1 i)
    · exact hge
  have hblt := h3.lt i b m1
  have hmu : ∀ j : Nat, j < E.S.length → (E.mu ++ [some b])[j]? = E.mu[j]? := fun j hj => List.getElem?_append_left (by rw [hE.len]; exact hj)
  have hSS : ∀ j : Nat, j < E.S.length → (E.S ++ [ABox.mpx es c])[j]? = E.S[j]? := fun j hj => List.getElem?_append_left hj
  have lt_of : ∀ (j : Nat) (y : ABox), E.S[j]? = some y → j < E.S.length := fun j y h => by
    rcases Nat.lt_or_ge j E.S.length with hlt | hge
    · exact hlt
    · rw [List.getElem?_eq_none hge] at h; cases h
  have hmem : ∀ (j q : Nat), (E.mu ++ [some b])[j]? = some (some q) → (j < E.S.length ∧ E.mu[j]? = some (some q)) ∨ (j = E.S.length ∧ q = b) := by
    intro j q h
    rw [List.getElem?_append] at h
    split at h
    · exact .inl ⟨by rw [← hE.len]; assumption, h⟩
    · rcases hi : j - E.mu.length with _ | k
      · rw [hi] at h
        refine .inr ⟨by rw [← hE.len]; omega, ?_⟩
        simp at h; exact h.symm
      · rw [hi] at h; simp at h
  have hbase : E'.base = E.base := h4.base
  have him : E'.im0 = E.im0 := h4.im0
  have hsz : E.w.heap.size ≤ E'.w.heap.size := h4.size
  have hfr : ∀ q, q < E.w.heap.size → E.free q → ∀ j : Nat, (E.mu ++ [some b])[j]? ≠ some (some q) := by
    intro q hq hf j hj
    rcases hmem j q hj with ⟨_, k2⟩ | ⟨_, k2⟩
    · exact hf j k2
    · omega
  have hxt : Ext E { E' with mu := E.mu ++ [some b], S := E.S ++ [.mpx es c] } := by
    refine ⟨hbase, him, h4.act, hsz, h4.os, h4.tape, h4.output, by simp, fun q hq hf => ⟨hfr q hq hf, (hfree q hq).2⟩, fun j y h hy => ⟨hmu j (lt_of j y h), y, (hSS j (lt_of j y h)).trans h, hy⟩,
      fun j n sz t h => ⟨n, (hSS j (lt_of j _ h)).trans h, Nat.le_refl _, fun _ => ⟨hmu j (lt_of j _ h), fun q hq => (hfree q (hE.lt j q hq)).2⟩,
        fun q hq => ⟨fun o _ => cell_same (hfree q (hE.lt j q hq)).2 _ _, .inl ((hmu j (lt_of j _ h)).trans hq)⟩⟩, fun j q o h hq => ⟨(hSS j (lt_of j _ h)).trans h, (hfree q (hE.lt j q hq)).2⟩⟩
  have hmb : (E.mu ++ [some b])[E.S.length]? = some (some b) := by rw [← hE.len]; simp
  refine ⟨{ E' with mu := E.mu ++ [some b], S := E.S ++ [.mpx es c] }, v, rfl, rfl, ⟨by simp [hE.len], fun j j' q k1 k2 => ?_, fun j q k => ?_, h3.base, fun q o k1 k2 => ?_, fun j y k => ?_, fun g u k => (hE.glob g u k).ext hE hxt⟩, hxt, rfl, ?_⟩
  · rcases hmem j q k1 with ⟨_, m1⟩ | ⟨e1, c1⟩ <;> rcases hmem j' q k2 with ⟨_, m2⟩ | ⟨e2, c2⟩
    · exact hE.inj j j' q m1 m2
    · have := hE.lt j q m1; omega
    · have := hE.lt j' q m2; omega
    · omega
  · rcases hmem j q k with ⟨_, m1⟩ | ⟨_, c1⟩
    · exact Nat.lt_of_lt_of_le (hE.lt j q m1) hsz
    · rw [c1]; exact hblt
  · have k1 : q < E.base := by rw [← hbase]; exact k1
    have k2 : E.im0 q o := by rw [← him]; exact k2
    exact hfr q (Nat.lt_of_lt_of_le k1 hE.base) (hE.im q o k1 k2)
  · have k' : (E.S ++ [ABox.mpx es c])[j]? = some y := k
    rw [List.getElem?_append] at k'
    split at k'
    · next hl => exact (hE.entry j y k').keep hE hxt (hmu j hl) fun q hq => (hfree q (hE.lt j q hq)).2
    · next hl =>
      rcases hi : j - E.S.length with _ | k
      · rw [hi] at k'
        simp at k'
        subst k'
        have : j = E.S.length := by omega
        subst this
        have hpe : ∀ e ∈ es', plainV e.1 = true ∧ plainV e.2.1 = true := fun e he => plainP_mem hp (e.1, e.2.1) (hmx.perm.mem_iff.1 (List.mem_map.2 ⟨e, he, rfl⟩))
        exact ⟨es', hmx, b, ms, hmb, m2, m3, fun q hq => ⟨(m4 q hq).1.plain (hpe _ (List.getElem_mem hq)).1, (m4 q hq).2.1.plain (hpe _ (List.getElem_mem hq)).2, (m4 q hq).2.2⟩⟩
      · rw [hi] at k'; simp at k'
  · cases h6 with
    | map _ b' hm hb =>
      have : b' = b := by rw [m1] at hm; injection hm with hm; injection hm with hm; exact hm.symm
      subst this
      exact .map _ _ hmb ⟨.mpx es c, by simp, rfl⟩

/-- What is reckoned, holds: a call with plain arguments that leaves something behind. -/
theorem xACallZ_ok {C : Cx} {tab : FuncId → Option FE} {ext : FuncId → List AVal → Option AVal} (hT : TabOk C tab ext) (n : Nat) {f : FuncId} {e : FE} (he : tab f = some e) {args : List AVal} (hlen : args.length ≤ e.N) {i c : Nat} {es : List (AVal × AVal)}
    (h : (match xRun C tab ext n e.q e.N f e.body (frame0 args) [] with
      | some (x, fr, T) => bif isFin x then match xRes C fr T e.rs with
          | some (.map j) => Nat.beq j i && match T[i]? with
            | some z => match mapPs z with
              | some (ps, c') => Nat.beq c' c && peqs ps es
              | none => false
            | none => false
          | _ => false
        else false
      | none => false) = true) (hp : plainP es = true) (ha : bels 0 args = true) (S : St) : ACall C f args S (.map S.length) (S ++ [.mpx es c]) := by
  split at h
  · next x fr T hx =>
    cases hi : isFin x with
    | false => rw [hi] at h; cases h
    | true =>
      rw [hi] at h
      simp only [cond_true] at h
      split at h
      · next j hv =>
        simp only [Bool.and_eq_true] at h
        obtain ⟨h1, h2⟩ := h
        obtain rfl := nbeq h1
        split at h2
        · next z hz =>
          split at h2
          · next ps c' hps =>
            simp only [Bool.and_eq_true] at h2
            have hm := mapPs_ok hps
            rw [nbeq h2.1, peqs_ok h2.2] at hm
            exact ((xRun_both hT n).1.acall hT he hlen hx hi hv).freshZ hT.glob hz hm hp ha S
          · cases h2
        · cases h2
      · cases h
  · cases h
end
end Go.Am
