/- Lines of steps: what script.Unline answers; the document's cut and number. -/
import Derived.Test.YtodiaabcaahnjaaGreatDoorS05
import Derived.Test.YtodiaabcaahnjaaGreatDoorL12
import Derived.Test.YtodiaabcaahnjaaGreatDoorAmFreshG
set_option linter.unusedVariables false
set_option linter.unusedSimpArgs false
section
namespace Go.Am
open Go Go.Proofs
set_option maxHeartbeats 8000000
set_option maxRecDepth 100000
section
attribute [local irreducible] aC aL thenQ blockQ scopeQ ALoop AWp
theorem cnm_ne {op : Int} (h : 1 ≤ op ∧ op ≤ 21) : cnm op ≠ LOAD ∧ cnm op ≠ STORE ∧ cnm op ≠ VERIFY := by
  obtain ⟨k, rfl⟩ := Int.eq_ofNat_of_zero_le (show 0 ≤ op by omega)
  have hall : ((List.range 22).all fun k => decide (cnm (k : Nat) ≠ LOAD) && decide (cnm (k : Nat) ≠ STORE) && decide (cnm (k : Nat) ≠ VERIFY)) = true := by decide +kernel
  have := List.all_eq_true.1 hall k (List.mem_range.2 (by omega))
  simp only [Bool.and_eq_true, decide_eq_true_eq] at this
  exact ⟨this.1.1, this.1.2, this.2⟩
theorem step_nocall {s : List UInt8} {st : Sp} (h : IsStep s st) (h1 : st.k ≠ 1) : ∀ op xs, ¬ IsCall s op xs := by
  intro op xs hc
  have hp := call_parts hc
  obtain ⟨n1, n2, n3⟩ := cnm_ne hc.1.1
  obtain ⟨hm, hok, rfl⟩ := h
  obtain ⟨k, op', xs', a, w, b⟩ := st
  rcases hm with hm | ⟨_, h4⟩
  · exact h1 hm.1
  · simp only at h4
    rcases h4 with ⟨rfl, _, _⟩ | ⟨rfl, _⟩ | ⟨rfl, _, _, _⟩
    · have e : lineS ⟨2, op', xs', a, w, b⟩ = LOAD ++ 32 :: Lib.decDigits a := by simp [lineS, numT, LOAD]
      rw [e, parts_hit 32 _ _ (by decide)] at hp
      exact n1 (List.cons.inj hp).1.symm
    · have e : lineS ⟨3, op', xs', a, w, b⟩ = STORE ++ 32 :: (Lib.decDigits a ++ 32 :: Lib.decDigits w) := by simp [lineS, numT, STORE]
      rw [e, parts_hit 32 _ _ (by decide)] at hp
      exact n2 (List.cons.inj hp).1.symm
    · by_cases hb0 : b = []
      · subst hb0
        have e : lineS ⟨4, op', xs', a, w, []⟩ = VERIFY := by simp [lineS]
        rw [e, parts_miss 32 _ (by decide)] at hp
        exact n3 (List.cons.inj hp).1.symm
      · have e : lineS ⟨4, op', xs', a, w, b⟩ = VERIFY ++ 32 :: hexl b := by simp [lineS, hb0]
        rw [e, parts_hit 32 _ _ (by decide)] at hp
        exact n3 (List.cons.inj hp).1.symm
theorem unline_call (s : List UInt8) (hs : s.length ≤ 9000) (op : Int) (xs : List Nat) (h : IsCall s op xs) :
    APure cx 9 [.str s] (.tup [.agg (spC ⟨1, op, xs, 0, 0, []⟩ true .any), .int .i64 0]) := by
  have hu := call_Untext s (by omega) _ (.inl ⟨op, xs, h, rfl⟩)
  obtain ⟨x0, x1, x2, x3, x4, x5, rfl⟩ := six h.2.1
  simp only [spC_six, wl_six, bl_nil, nz] at *
  clear h
  refine pure_fnK cxOk Tryz.func9 (fun _ => false) (fe9.q) (by kernel_rfl) (by dsimp only [Tryz.f9, go_sem, seval] <;> rfl) ?_
  dsimp only [Tryz.f9, frame0, List.zipIdx, List.map, Nat.reduceAdd]
  try simp only [List.getElem?_toArray, List.getElem?_cons_succ, List.getElem?_cons_zero, Option.bind_some]
  repeat' (first | refine aC_seq ?_ | refine aC_reg rfl ?_ | refine aC_ret ?_ | refine thenQ_normal ?_ | refine thenQ_ret ?_ | refine aL_nil ?_ | (apply aL_step; (· exact True.intro); (iterate 2 (· simp (disch := omega) only [go_sem, seval] <;> with_reducible rfl)); (· simp only [go_sem] <;> with_reducible rfl)) | (refine aC_condT ?_ ?_; (· simp (disch := omega) only [go_sem, seval])) | (apply aL_pK cxG (hu); (iterate 2 (· simp (disch := omega) only [go_sem, seval] <;> with_reducible rfl)); (· simp only [go_sem] <;> with_reducible rfl); (· simp)) | fail)
  all_goals try (first | exact True.intro | exact not_false | omega | (simp (disch := omega) only [go_sem, seval] <;> omega))
  all_goals clear hu
  all_goals try (simp (disch := omega) only [go_sem, seval])
  all_goals try simp
theorem script_Unline (s : List UInt8) (hs : s.length ≤ 9000) (r : AVal) (hr : (∃ st, IsStep s st ∧ r = .tup [.agg (spC st st.b.isEmpty .any), .int .i64 0]) ∨
    ((∀ st, ¬ IsStep s st) ∧ r = .tup [.agg (spC Sp.zero true .any), .int .i64 4])) : APure cx 9 [.str s] r := by
  rcases hr with ⟨st, h, rfl⟩ | ⟨h, rfl⟩
  · by_cases h1 : st.k = 1
    · obtain ⟨hc, he⟩ := step_call h h1
      have := unline_call s hs _ _ hc
      rw [← he] at this
      have hb : st.b = [] := by rw [he]
      rw [hb]
      exact this
    · have hn := step_nocall h h1
      have hcd := cand_is h h1
      have := unline_cand s hs hn
      rw [hcd, if_pos ⟨h.1, h.2.2⟩] at this
      exact this
  · have hn : ∀ op xs, ¬ IsCall s op xs := fun op xs hc => h _ (call_step hc)
    have := unline_cand s hs hn
    rw [if_neg fun q => h (cand s) ⟨q.1, (cand_ok s hs).1, q.2⟩] at this
    exact this
end
end Go.Am
end
section
namespace Go.Am
open Go Go.Proofs
set_option maxHeartbeats 8000000
set_option maxRecDepth 100000
section
attribute [local irreducible] aC aL thenQ blockQ scopeQ ALoop AWp
theorem ref_SameStep (s t : Sp) (hs : s.xs.length = 6) (ht : t.xs.length = 6) (hsb : s.b.length ≤ 1048576) (htb : t.b.length ≤ 1048576) (n1 n2 : Bool) :
    APure cx 11 [.agg (spC s n1 .any), .agg (spC t n2 .any)] (.bool (decide (s = t))) := by
  obtain ⟨k, op, xs, a, w, b⟩ := s
  obtain ⟨k', op', xs', a', w', b'⟩ := t
  obtain ⟨x0, x1, x2, x3, x4, x5, rfl⟩ := six hs
  obtain ⟨y0, y1, y2, y3, y4, y5, rfl⟩ := six ht
  rw [spC_six, spC_six]
  have hsm := ref_same n1 n2 b b' hsb htb
  refine pure_fnK cxOk Tryz.func11 (fun _ => false) (fun _ => none) (by kernel_rfl) (by dsimp only [Tryz.f11, go_sem, seval] <;> rfl) ?_
  dsimp only [Tryz.f11, frame0, List.zipIdx, List.map, Nat.reduceAdd]
  try simp only [List.getElem?_toArray, List.getElem?_cons_succ, List.getElem?_cons_zero, Option.bind_some]
  repeat' (first | refine aC_seq ?_ | refine aC_reg rfl ?_ | refine aC_ret ?_ | refine thenQ_normal ?_ | refine aL_nil ?_ | (apply aL_step; (· exact True.intro); (iterate 2 (· simp (disch := omega) only [go_sem, seval] <;> with_reducible rfl)); (· simp only [go_sem] <;> with_reducible rfl)) | (refine aL_skip ?_ (by simp only [go_sem] <;> with_reducible rfl) ?_; (· simp (disch := omega) only [go_sem, seval])) | (apply aL_guardP; (· simp (disch := omega) only [go_sem, seval] <;> with_reducible rfl); all_goals (intro h; first | (exfalso; omega) | (simp only [h, decide_true, decide_false, not_true, not_false_iff]))) | (apply aL_pK cxG (hsm); (iterate 2 (· simp (disch := omega) only [go_sem, seval] <;> with_reducible rfl)); (· simp only [go_sem] <;> with_reducible rfl); (· simp)) | fail)
  all_goals try (first | exact True.intro | exact not_false | omega | (simp (disch := omega) only [go_sem, seval] <;> omega))
  all_goals clear hsm
  all_goals try (simp (disch := omega) only [go_sem, seval])
  all_goals try simp
  all_goals try (exact ⟨by kernel_rfl, by kernel_rfl⟩)
  all_goals clear hs ht hsb htb
  all_goals simp_all [Int.ofNat_inj]
end
end Go.Am
end
section
namespace Go.Am
open Go Go.Proofs
set_option maxHeartbeats 8000000
set_option maxRecDepth 100000
section
attribute [local irreducible] aC aL thenQ blockQ scopeQ ALoop AWp
end
end Go.Am
end
