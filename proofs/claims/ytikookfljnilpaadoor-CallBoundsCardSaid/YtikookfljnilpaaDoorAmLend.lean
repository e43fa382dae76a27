/- The abstract layer: a contract over one map (whose entries came in whatever order), at any state that has it. -/
import Derived.Test.YtikookfljnilpaaDoorAmFreshZ
set_option linter.unusedVariables false
set_option linter.unusedSimpArgs false
namespace Go.Am
open Go

noncomputable section

theorem ACall.lendX {C : Cx} (hG : GClosed C) {f : FuncId} {args args0 : List AVal} {r : AVal} {es : List (AVal × AVal)} {c : Nat} (h : ACall C f args0 [.mpx es c] r [.mpx es c]) (hp : plainP es = true) (hr : plainV r = true) {S : St} {i : Nat} (hS : S[i]? = some (.mpx es c))
    (hlen : args0.length = args.length) (ha : ∀ j (h : j < args.length) (h0 : j < args0.length), (plainV args0[j] = true ∧ args[j] = args0[j]) ∨ (args0[j] = .map 0 ∧ args[j] = .map i)) : ACall C f args S r S := by
  refine ⟨h.callable, fun E vs hE hES hvs hrel => ?_⟩
  subst hES
  obtain ⟨es', hmx, q, ms, m1, m2, m3, m4⟩ := hE.entry i _ hS
  have hpe : ∀ e ∈ es', plainV e.1 = true ∧ plainV e.2.1 = true := fun e he => plainP_mem hp (e.1, e.2.1) (hmx.perm.mem_iff.1 (List.mem_map.2 ⟨e, he, rfl⟩))
  have hq := hE.lt i q m1
  have nf : ∀ b, E.free b → b ≠ q := fun b hf e => hf i (by rw [e]; exact m1)
  have hm0 : ∀ (j b : Nat), ([some q] : List (Option Nat))[j]? = some (some b) → j = 0 ∧ b = q := by
    intro j b hj
    cases j with
    | zero => exact ⟨rfl, by simpa using hj.symm⟩
    | succ j => simp at hj
  have hfr0 : ∀ b, b ≠ q → ∀ j : Nat, ([some q] : List (Option Nat))[j]? ≠ some (some b) := fun b hb j hj => hb (hm0 j b hj).2
  have hIm : ∀ b o, E.Im b o → ({ E with mu := [some q], S := [.mpx es c] } : Env).Im b o := by
    intro b o ⟨k1, k2⟩
    refine ⟨k1, ?_⟩
    rcases k2 with k | ⟨k, k3⟩ | ⟨k, i', n, sz, t, k3, k4, _⟩
    · exact .inl k
    · exact .inr (.inl ⟨k, hfr0 b (nf b k3)⟩)
    · refine .inr (.inl ⟨k, hfr0 b fun e => ?_⟩)
      have : i' = i := hE.inj i' i b k3 (by rw [e]; exact m1)
      rw [this, hS] at k4
      cases k4
  have hsee : Sees E { E with mu := [some q], S := [.mpx es c] } := ⟨fun b o hi => ⟨hIm b o hi, rfl⟩⟩
  have hE0 : Wf C.G { E with mu := [some q], S := [.mpx es c] } := by
    refine ⟨rfl, fun j j' b k1 k2 => ?_, fun j b k => ?_, hE.base, fun b o k1 k2 => hfr0 b (nf b (hE.im b o k1 k2)), fun j x k => ?_, fun g v k => ⟨(hG g v k).move hsee (hE.glob g v k).r, hfr0 g (nf g (hE.glob g v k).free), (hE.glob g v k).obj⟩⟩
    · rw [(hm0 j b k1).1, (hm0 j' b k2).1]
    · rw [(hm0 j b k).2]; exact hq
    · cases j with
      | zero =>
        have k : ABox.mpx es c = x := by simpa using k
        subst k
        exact ⟨es', hmx, q, ms, rfl, m2, m3, fun j hj => ⟨(m4 j hj).1.plain (hpe _ (List.getElem_mem hj)).1, (m4 j hj).2.1.plain (hpe _ (List.getElem_mem hj)).2, (m4 j hj).2.2⟩⟩
      | succ j => simp at k
  refine (h.ok { E with mu := [some q], S := [.mpx es c] } vs hE0 rfl (hvs.trans hlen.symm) fun j hj => ?_).mono ?_
  · have hj' : j < args.length := by omega
    have k := hrel j hj'
    rcases ha j hj' hj with ⟨k1, k2⟩ | ⟨k1, k2⟩
    · rw [k2] at k; exact k.plain k1
    · rw [k2] at k
      rw [k1]
      generalize vs.getD j undef = x at k
      cases k with
      | map _ b hm hb =>
        have : b = q := by rw [m1] at hm; injection hm with hm; injection hm with hm; exact hm.symm
        subst this
        exact .map _ _ rfl ⟨.mpx es c, rfl, rfl⟩
  · rintro _ _ ⟨E', v, h1, h2, h3, h4, h5, h6⟩
    subst h1 h2
    have hsz : E.w.heap.size ≤ E'.w.heap.size := h4.size
    have hfree : ∀ p, p < E.w.heap.size → p ≠ q → E'.w.heap[p]? = E.w.heap[p]? := fun p hp1 hp2 => (h4.free p hp1 (hfr0 p hp2)).2
    have hmu' : E'.mu[0]? = some (some q) := (h4.box 0 (.mpx es c) rfl rfl).1
    have hbase : E'.base = E.base := h4.base
    have him : E'.im0 = E.im0 := h4.im0
    have ne_of : ∀ (j p : Nat), j ≠ i → E.mu[j]? = some (some p) → p ≠ q := fun j p hj hm e => hj (hE.inj j i p hm (by rw [e]; exact m1))
    have hxt : Ext E { E' with mu := E.mu, S := E.S } := by
      refine ⟨hbase, him, h4.act, hsz, h4.os, h4.tape, h4.output, Nat.le_refl _, fun p hp1 hf => ⟨hf, hfree p hp1 (nf p hf)⟩, fun j y k hy => ⟨rfl, y, k, hy⟩,
        fun j n sz t k => ⟨n, k, Nat.le_refl _, fun _ => ⟨rfl, fun p hm => hfree p (hE.lt j p hm) (ne_of j p (fun e => by rw [e, hS] at k; cases k) hm)⟩,
          fun p hm => ⟨fun o _ => cell_same (hfree p (hE.lt j p hm) (ne_of j p (fun e => by rw [e, hS] at k; cases k) hm)) _ _, .inl hm⟩⟩, fun j p o k hm => ⟨k, hfree p (hE.lt j p hm) (ne_of j p (fun e => by rw [e, hS] at k; cases k) hm)⟩⟩
    refine ⟨{ E' with mu := E.mu, S := E.S }, v, rfl, rfl, ⟨hE.len, hE.inj, fun j p k => Nat.lt_of_lt_of_le (hE.lt j p k) hsz, h3.base, fun p o k1 k2 => ?_, fun j y k => ?_, fun g u k => (hE.glob g u k).ext hE hxt⟩, hxt, rfl, h6.plain hr⟩
    · have k1 : p < E.base := by rw [← hbase]; exact k1
      have k2 : E.im0 p o := by rw [← him]; exact k2
      exact hE.im p o k1 k2
    · have k : E.S[j]? = some y := k
      by_cases hj : j = i
      · subst hj
        rw [hS] at k
        injection k with k
        subst k
        obtain ⟨es2, x1, q2, ms2, x2, x3, x4, x5⟩ := h3.entry 0 (.mpx es c) (by rw [h5]; rfl)
        have : q2 = q := by rw [hmu'] at x2; injection x2 with x2; injection x2 with x2; exact x2.symm
        subst this
        have hpe2 : ∀ e ∈ es2, plainV e.1 = true ∧ plainV e.2.1 = true := fun e he => plainP_mem hp (e.1, e.2.1) (x1.perm.mem_iff.1 (List.mem_map.2 ⟨e, he, rfl⟩))
        exact ⟨es2, x1, q2, ms2, m1, x3, x4, fun j hj => ⟨(x5 j hj).1.plain (hpe2 _ (List.getElem_mem hj)).1, (x5 j hj).2.1.plain (hpe2 _ (List.getElem_mem hj)).2, (x5 j hj).2.2⟩⟩
      · exact (hE.entry j y k).keep hE hxt rfl fun p hm => hfree p (hE.lt j p hm) (ne_of j p hj hm)
end
end Go.Am
