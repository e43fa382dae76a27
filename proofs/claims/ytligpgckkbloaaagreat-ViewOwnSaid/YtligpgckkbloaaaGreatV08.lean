/- ViewOwn's law, for any two: true. -/
import Derived.Test.YtligpgckkbloaaaGreatV06
import Derived.Test.YtligpgckkbloaaaGreatV07
set_option linter.unusedVariables false
set_option linter.unusedSimpArgs false
namespace Go.Am
open Go Go.Proofs
set_option maxHeartbeats 8000000
set_option maxRecDepth 100000
section
attribute [local irreducible] aC aL thenQ blockQ scopeQ ALoop AWp
@[simp] theorem closed_bl_or (m : List UInt8) (P : AVal → Prop) : (∀ x, x ∈ bl m ∨ P x → Closed x) ↔ ∀ x, P x → Closed x := by
  constructor
  · exact fun h x hx => h x (.inr hx)
  · rintro h x (hx | hx)
    · obtain ⟨b, _, rfl⟩ := List.mem_map.1 hx
      exact (closed_bv b).2 trivial
    · exact h x hx
structure Ow.W (o : Ow) : Prop where
  m32 : o.m.length = 32
  p1 : o.p.length ≤ 9223372036854775807
  r1 : o.r.length ≤ 9223372036854775807
  p2 : ∀ x ∈ o.p, x.Ok
  r2 : ∀ x ∈ o.r, x.Ok
theorem law_own (a b : Ow) (ha : a.W) (hb : b.W) (n1 n2 m1 m2 : Bool) :
    APure cx 4 [.agg (owC a n1 n2), .agg (owC b m1 m2)] (.bool true) := by
  have hk := view_known
  have hm := ha.m32
  have hm' := hb.m32
  have j1 := drop32 hm
  have j2 := drop32 hm'
  have j3 := get32 hm
  have j4 := get32 hm'
  have j5 : ∀ x y z, (bl a.m ++ [x, y, z]).take 35 = bl a.m ++ [x, y, z] := fun x y z => List.take_of_length_le (by rw [List.length_append, length_bl, hm]; simp)
  have j6 : ∀ x y z, (bl b.m ++ [x, y, z]).take 35 = bl b.m ++ [x, y, z] := fun x y z => List.take_of_length_le (by rw [List.length_append, length_bl, hm']; simp)
  have l1 := ha.p1
  have l2 := hb.p1
  have l3 := ha.r1
  have l4 := hb.r1
  by_cases hbig : 200 < a.p.length ∨ 200 < b.p.length ∨ 200 < a.r.length ∨ 200 < b.r.length
  case pos =>
    clear ha hb
    obtain ⟨i, s, m, c, p, r⟩ := a
    obtain ⟨i', s', m', c', p', r'⟩ := b
    unfold owC
    simp only at *
    generalize hb1 : decide ((200 : Int) < (p.length : Int)) = B1
    generalize hb2 : decide ((200 : Int) < (p'.length : Int)) = B2
    generalize hb3 : decide ((200 : Int) < (r.length : Int)) = B3
    generalize hb4 : decide ((200 : Int) < (r'.length : Int)) = B4
    have hB : B1 = true ∨ (B1 = false ∧ B2 = true) ∨ (B1 = false ∧ B2 = false ∧ B3 = true) ∨ (B1 = false ∧ B2 = false ∧ B3 = false ∧ B4 = true) := by
      subst hb1 hb2 hb3 hb4
      simp only [decide_eq_true_eq, decide_eq_false_iff_not]
      omega
    clear hbig
    rcases hB with rfl | ⟨rfl, rfl⟩ | ⟨rfl, rfl, rfl⟩ | ⟨rfl, rfl, rfl, rfl⟩
    all_goals
      refine pure_fnK cxOk Tryz.func4 (fun _ => false) (fe4.q) (by kernel_rfl) (by dsimp only [Tryz.f4, go_sem, seval, liteO, Option.map, List.map]; exact .mk _) ?_
      dsimp only [Tryz.f4, frame0, List.zipIdx, List.map, Nat.reduceAdd]
      try simp only [List.getElem?_toArray, List.getElem?_cons_succ, List.getElem?_cons_zero, Option.bind_some]
      repeat' (first | refine aC_seq ?_ | refine aC_reg rfl ?_ | refine aC_block ?_ | refine aC_skip ?_ | refine aC_loop ?_ | refine aC_scope ?_ | refine scopeQ_normal ?_ | refine scopeQ_exit ?_ | refine scopeQ_ret ?_ | refine aC_exit ?_ | refine aC_ret ?_ | refine thenQ_normal ?_ | refine blockQ_normal ?_ | refine thenQ_ret ?_ | refine blockQ_ret ?_ | refine thenQ_exit ?_ | refine blockQ_hit ?_ | refine blockQ_miss rfl ?_ | refine aL_nil ?_ | (apply aL_step; (· exact True.intro); (iterate 2 (· simp (disch := first | omega | (simp only [go_sem]; omega)) only [go_sem, seval, reduceCtorEq, hb1, hb2, hb3, hb4, hm, hm', j1, j2, j3, j4, decide_true, decide_false] <;> with_reducible rfl)); (· simp only [go_sem] <;> with_reducible rfl)) | (refine aL_skip ?_ (by simp only [go_sem] <;> with_reducible rfl) ?_; (· simp (disch := first | omega | (simp only [go_sem]; omega)) only [go_sem, seval, reduceCtorEq, hb1, hb2, hb3, hb4, hm, hm', j1, j2, j3, j4, decide_true, decide_false])) | (apply aL_guardN; (· simp (disch := first | omega | (simp only [go_sem]; omega)) only [go_sem, seval, reduceCtorEq, hb1, hb2, hb3, hb4, hm, hm', j1, j2, j3, j4, decide_true, decide_false] <;> with_reducible rfl); all_goals (intro h; first | (exfalso; omega) | (simp only [h, decide_true, decide_false, not_true, not_false_iff]))) | (apply aL_guardP; (· simp (disch := first | omega | (simp only [go_sem]; omega)) only [go_sem, seval, reduceCtorEq, hb1, hb2, hb3, hb4, hm, hm', j1, j2, j3, j4, decide_true, decide_false] <;> with_reducible rfl); all_goals (intro h; first | (exfalso; omega) | (simp only [h, decide_true, decide_false, not_true, not_false_iff]))) | (refine aC_condT ?_ ?_; (· simp (disch := first | omega | (simp only [go_sem]; omega)) only [go_sem, seval, reduceCtorEq, hb1, hb2, hb3, hb4, hm, hm', j1, j2, j3, j4, decide_true, decide_false])) | (refine aC_condF ?_ ?_; (· simp (disch := first | omega | (simp only [go_sem]; omega)) only [go_sem, seval, reduceCtorEq, hb1, hb2, hb3, hb4, hm, hm', j1, j2, j3, j4, decide_true, decide_false])) | (refine aC_condP (by simp (disch := first | omega | (simp only [go_sem]; omega)) only [go_sem, seval, reduceCtorEq, hb1, hb2, hb3, hb4, hm, hm', j1, j2, j3, j4, decide_true, decide_false] <;> with_reducible rfl) ?_ ?_ <;> (intro h; first | (exfalso; omega) | skip)) | (apply aL_pK cxG (hk); (iterate 2 (· simp (disch := first | omega | (simp only [go_sem]; omega)) only [go_sem, seval, reduceCtorEq, hb1, hb2, hb3, hb4, hm, hm', j1, j2, j3, j4, decide_true, decide_false] <;> with_reducible rfl)); (· simp only [go_sem] <;> with_reducible rfl); (· simp)) | (apply aL_pure cxG (hk); (case hg => (simp (disch := first | omega | (simp only [go_sem]; omega)) only [go_sem, seval, reduceCtorEq, hb1, hb2, hb3, hb4, hm, hm', j1, j2, j3, j4, decide_true, decide_false])); (case hx => (simp (disch := first | omega | (simp only [go_sem]; omega)) only [go_sem, seval, reduceCtorEq, hb1, hb2, hb3, hb4, hm, hm', j1, j2, j3, j4, decide_true, decide_false] <;> with_reducible rfl)); (case ha => (simp (disch := first | omega | (simp only [go_sem]; omega)) only [go_sem, seval, reduceCtorEq, hb1, hb2, hb3, hb4, hm, hm', j1, j2, j3, j4, decide_true, decide_false] <;> with_reducible rfl)); (case he => (simp only [go_sem] <;> with_reducible rfl)); (case hcl => (simp)); (case hf => (simp only [go_sem] <;> with_reducible rfl))) | fail)
      all_goals try (first | exact True.intro | exact not_false | omega | (simp (disch := first | omega | (simp only [go_sem]; omega)) only [go_sem, seval, reduceCtorEq] <;> omega))
      all_goals try (simp (disch := first | omega | (simp only [go_sem]; omega)) only [go_sem, seval, reduceCtorEq])
      all_goals try simp
      all_goals (intro x hx; rcases hx with hx | rfl | rfl | rfl; (· obtain ⟨b, _, rfl⟩ := List.mem_map.1 hx; rfl); all_goals rfl)
  case neg =>
    have oa : a.Ok := ⟨ha.m32, by omega, by omega, ha.p2, ha.r2⟩
    have ob : b.Ok := ⟨hb.m32, by omega, by omega, hb.p2, hb.r2⟩
    have c1 := same_own a b oa ob n1 n2 m1 m2
    have c2 := same_own a a oa oa n1 n2 n1 n2
    have c3 := law_same a b oa ob n1 n2 m1 m2
    rw [same_ow a] at c2
    generalize sameOw a b = R at *
    have b1 : ¬ ((200 : Int) < (a.p.length : Int)) := by omega
    have b2 : ¬ ((200 : Int) < (b.p.length : Int)) := by omega
    have b3 : ¬ ((200 : Int) < (a.r.length : Int)) := by omega
    have b4 : ¬ ((200 : Int) < (b.r.length : Int)) := by omega
    clear ha hb oa ob
    obtain ⟨i, s, m, c, p, r⟩ := a
    obtain ⟨i', s', m', c', p', r'⟩ := b
    unfold owC at *
    simp only at *
    clear hbig
    refine pure_fnK cxOk Tryz.func4 (fun _ => false) (fe4.q) (by kernel_rfl) (by dsimp only [Tryz.f4, go_sem, seval, liteO, Option.map, List.map]; exact .mk _) ?_
    dsimp only [Tryz.f4, frame0, List.zipIdx, List.map, Nat.reduceAdd]
    try simp only [List.getElem?_toArray, List.getElem?_cons_succ, List.getElem?_cons_zero, Option.bind_some]
    repeat' (first | refine aC_seq ?_ | refine aC_reg rfl ?_ | refine aC_block ?_ | refine aC_skip ?_ | refine aC_loop ?_ | refine aC_scope ?_ | refine scopeQ_normal ?_ | refine scopeQ_exit ?_ | refine scopeQ_ret ?_ | refine aC_exit ?_ | refine aC_ret ?_ | refine thenQ_normal ?_ | refine blockQ_normal ?_ | refine thenQ_ret ?_ | refine blockQ_ret ?_ | refine thenQ_exit ?_ | refine blockQ_hit ?_ | refine blockQ_miss rfl ?_ | refine aL_nil ?_ | (apply aL_step; (· exact True.intro); (iterate 2 (· simp (disch := first | omega | (simp only [go_sem]; omega)) only [go_sem, seval, reduceCtorEq, b1, b2, b3, b4, hm, hm', j1, j2, j3, j4, decide_false] <;> with_reducible rfl)); (· simp only [go_sem] <;> with_reducible rfl)) | (refine aL_skip ?_ (by simp only [go_sem] <;> with_reducible rfl) ?_; (· simp (disch := first | omega | (simp only [go_sem]; omega)) only [go_sem, seval, reduceCtorEq, b1, b2, b3, b4, hm, hm', j1, j2, j3, j4, decide_false])) | (apply aL_guardN; (· simp (disch := first | omega | (simp only [go_sem]; omega)) only [go_sem, seval, reduceCtorEq, b1, b2, b3, b4, hm, hm', j1, j2, j3, j4, decide_false] <;> with_reducible rfl); all_goals (intro h; first | (exfalso; omega) | (simp only [h, decide_true, decide_false, not_true, not_false_iff]))) | (apply aL_guardP; (· simp (disch := first | omega | (simp only [go_sem]; omega)) only [go_sem, seval, reduceCtorEq, b1, b2, b3, b4, hm, hm', j1, j2, j3, j4, decide_false] <;> with_reducible rfl); all_goals (intro h; first | (exfalso; omega) | (simp only [h, decide_true, decide_false, not_true, not_false_iff]))) | (refine aC_condT ?_ ?_; (· simp (disch := first | omega | (simp only [go_sem]; omega)) only [go_sem, seval, reduceCtorEq, b1, b2, b3, b4, hm, hm', j1, j2, j3, j4, decide_false])) | (refine aC_condF ?_ ?_; (· simp (disch := first | omega | (simp only [go_sem]; omega)) only [go_sem, seval, reduceCtorEq, b1, b2, b3, b4, hm, hm', j1, j2, j3, j4, decide_false])) | (refine aC_condP (by simp (disch := first | omega | (simp only [go_sem]; omega)) only [go_sem, seval, reduceCtorEq, b1, b2, b3, b4, hm, hm', j1, j2, j3, j4, decide_false] <;> with_reducible rfl) ?_ ?_ <;> (intro h; first | (exfalso; omega) | skip)) | fail)
    refine aC_regB (U := [(some 31, some 30), (some 32, some 30)]) rfl [(some 28, 0), (some 29, 1), (some 31, 0), (some 32, 1), (some 36, 0), (some 37, 0)] ?_
    repeat' (first | refine aLB_nil ?_ | (apply aLB_step; (· exact True.intro); (· exact (by intro h; cases h)); (· rfl); (· simp (disch := first | omega | (simp only [go_sem]; omega)) only [go_sem, seval, reduceCtorEq, hm, hm', j1, j2, j3, j4, j5, j6, beq_self_eq_true, bne_self_eq_false, eq_self_iff_true, decide_true, decide_false]); (· simp (disch := first | omega | (simp only [go_sem]; omega)) only [go_sem, seval, reduceCtorEq, hm, hm', j1, j2, j3, j4, j5, j6, beq_self_eq_true, bne_self_eq_false, eq_self_iff_true, decide_true, decide_false] <;> with_reducible rfl); (· simp only [go_sem] <;> with_reducible rfl); (· (intro b hb; first | (cases hb; done) | (simp (disch := first | omega | (simp only [go_sem]; omega)) only [loadBox, go_sem, seval, reduceCtorEq] at hb; (try injection hb with hb); subst hb; simp)))) | (apply aLB_write; (· exact True.intro); (· rfl); (· rfl); (· simp (disch := first | omega | (simp only [go_sem]; omega)) only [go_sem, seval, reduceCtorEq, hm, hm', j1, j2, j3, j4, j5, j6, beq_self_eq_true, bne_self_eq_false, eq_self_iff_true, decide_true, decide_false]); (· simp (disch := first | omega | (simp only [go_sem]; omega)) only [go_sem, seval, reduceCtorEq, hm, hm', j1, j2, j3, j4, j5, j6, beq_self_eq_true, bne_self_eq_false, eq_self_iff_true, decide_true, decide_false] <;> with_reducible rfl); (· simp only [go_sem] <;> with_reducible rfl); (· simp)) | (refine aLB_skip ?_ (by simp only [go_sem] <;> with_reducible rfl) ?_; (· simp (disch := first | omega | (simp only [go_sem]; omega)) only [go_sem, seval, reduceCtorEq, hm, hm', j1, j2, j3, j4, j5, j6, beq_self_eq_true, bne_self_eq_false, eq_self_iff_true, decide_true, decide_false])) | (apply aLB_pure cxG (c1); (case hg => (simp (disch := first | omega | (simp only [go_sem]; omega)) only [go_sem, seval, reduceCtorEq, hm, hm', j1, j2, j3, j4, j5, j6, beq_self_eq_true, bne_self_eq_false, eq_self_iff_true, decide_true, decide_false])); (case hx => (simp (disch := first | omega | (simp only [go_sem]; omega)) only [go_sem, seval, reduceCtorEq, hm, hm', j1, j2, j3, j4, j5, j6, beq_self_eq_true, bne_self_eq_false, eq_self_iff_true, decide_true, decide_false] <;> with_reducible rfl)); (case ha => (simp (disch := first | omega | (simp only [go_sem]; omega)) only [go_sem, seval, reduceCtorEq, hm, hm', j1, j2, j3, j4, j5, j6, beq_self_eq_true, bne_self_eq_false, eq_self_iff_true, decide_true, decide_false] <;> with_reducible rfl)); (case he => (simp only [go_sem] <;> with_reducible rfl)); (case hcl => (simp)); (case hf => (simp only [go_sem] <;> with_reducible rfl))) | (apply aLB_pure cxG (c2); (case hg => (simp (disch := first | omega | (simp only [go_sem]; omega)) only [go_sem, seval, reduceCtorEq, hm, hm', j1, j2, j3, j4, j5, j6, beq_self_eq_true, bne_self_eq_false, eq_self_iff_true, decide_true, decide_false])); (case hx => (simp (disch := first | omega | (simp only [go_sem]; omega)) only [go_sem, seval, reduceCtorEq, hm, hm', j1, j2, j3, j4, j5, j6, beq_self_eq_true, bne_self_eq_false, eq_self_iff_true, decide_true, decide_false] <;> with_reducible rfl)); (case ha => (simp (disch := first | omega | (simp only [go_sem]; omega)) only [go_sem, seval, reduceCtorEq, hm, hm', j1, j2, j3, j4, j5, j6, beq_self_eq_true, bne_self_eq_false, eq_self_iff_true, decide_true, decide_false] <;> with_reducible rfl)); (case he => (simp only [go_sem] <;> with_reducible rfl)); (case hcl => (simp)); (case hf => (simp only [go_sem] <;> with_reducible rfl))) | (apply aLB_pure cxG (c3); (case hg => (simp (disch := first | omega | (simp only [go_sem]; omega)) only [go_sem, seval, reduceCtorEq, hm, hm', j1, j2, j3, j4, j5, j6, beq_self_eq_true, bne_self_eq_false, eq_self_iff_true, decide_true, decide_false])); (case hx => (simp (disch := first | omega | (simp only [go_sem]; omega)) only [go_sem, seval, reduceCtorEq, hm, hm', j1, j2, j3, j4, j5, j6, beq_self_eq_true, bne_self_eq_false, eq_self_iff_true, decide_true, decide_false] <;> with_reducible rfl)); (case ha => (simp (disch := first | omega | (simp only [go_sem]; omega)) only [go_sem, seval, reduceCtorEq, hm, hm', j1, j2, j3, j4, j5, j6, beq_self_eq_true, bne_self_eq_false, eq_self_iff_true, decide_true, decide_false] <;> with_reducible rfl)); (case he => (simp only [go_sem] <;> with_reducible rfl)); (case hcl => (simp)); (case hf => (simp only [go_sem] <;> with_reducible rfl))) | (apply aLB_pure cxG (hk); (case hg => (simp (disch := first | omega | (simp only [go_sem]; omega)) only [go_sem, seval, reduceCtorEq, hm, hm', j1, j2, j3, j4, j5, j6, beq_self_eq_true, bne_self_eq_false, eq_self_iff_true, decide_true, decide_false])); (case hx => (simp (disch := first | omega | (simp only [go_sem]; omega)) only [go_sem, seval, reduceCtorEq, hm, hm', j1, j2, j3, j4, j5, j6, beq_self_eq_true, bne_self_eq_false, eq_self_iff_true, decide_true, decide_false] <;> with_reducible rfl)); (case ha => (simp (disch := first | omega | (simp only [go_sem]; omega)) only [go_sem, seval, reduceCtorEq, hm, hm', j1, j2, j3, j4, j5, j6, beq_self_eq_true, bne_self_eq_false, eq_self_iff_true, decide_true, decide_false] <;> with_reducible rfl)); (case he => (simp only [go_sem] <;> with_reducible rfl)); (case hcl => (simp)); (case hf => (simp only [go_sem] <;> with_reducible rfl))) | fail)
    repeat' (first | refine aC_seq ?_ | refine aC_reg rfl ?_ | refine aC_block ?_ | refine aC_skip ?_ | refine aC_loop ?_ | refine aC_scope ?_ | refine scopeQ_normal ?_ | refine scopeQ_exit ?_ | refine scopeQ_ret ?_ | refine aC_exit ?_ | refine aC_ret ?_ | refine thenQ_normal ?_ | refine blockQ_normal ?_ | refine thenQ_ret ?_ | refine blockQ_ret ?_ | refine thenQ_exit ?_ | refine blockQ_hit ?_ | refine blockQ_miss rfl ?_ | refine aL_nil ?_ | (apply aL_step; (· exact True.intro); (iterate 2 (· simp (disch := first | omega | (simp only [go_sem]; omega)) only [go_sem, seval, reduceCtorEq, beq_self_eq_true, bne_self_eq_false, eq_self_iff_true, decide_true, decide_false] <;> with_reducible rfl)); (· simp only [go_sem] <;> with_reducible rfl)) | (refine aL_skip ?_ (by simp only [go_sem] <;> with_reducible rfl) ?_; (· simp (disch := first | omega | (simp only [go_sem]; omega)) only [go_sem, seval, reduceCtorEq, beq_self_eq_true, bne_self_eq_false, eq_self_iff_true, decide_true, decide_false])) | (apply aL_guardN; (· simp (disch := first | omega | (simp only [go_sem]; omega)) only [go_sem, seval, reduceCtorEq, beq_self_eq_true, bne_self_eq_false, eq_self_iff_true, decide_true, decide_false] <;> with_reducible rfl); all_goals (intro h; first | (exfalso; omega) | (simp only [h, decide_true, decide_false, not_true, not_false_iff]))) | (apply aL_guardP; (· simp (disch := first | omega | (simp only [go_sem]; omega)) only [go_sem, seval, reduceCtorEq, beq_self_eq_true, bne_self_eq_false, eq_self_iff_true, decide_true, decide_false] <;> with_reducible rfl); all_goals (intro h; first | (exfalso; omega) | (simp only [h, decide_true, decide_false, not_true, not_false_iff]))) | (refine aC_condT ?_ ?_; (· simp (disch := first | omega | (simp only [go_sem]; omega)) only [go_sem, seval, reduceCtorEq, beq_self_eq_true, bne_self_eq_false, eq_self_iff_true, decide_true, decide_false])) | (refine aC_condF ?_ ?_; (· simp (disch := first | omega | (simp only [go_sem]; omega)) only [go_sem, seval, reduceCtorEq, beq_self_eq_true, bne_self_eq_false, eq_self_iff_true, decide_true, decide_false])) | (refine aC_condP (by simp (disch := first | omega | (simp only [go_sem]; omega)) only [go_sem, seval, reduceCtorEq, beq_self_eq_true, bne_self_eq_false, eq_self_iff_true, decide_true, decide_false] <;> with_reducible rfl) ?_ ?_ <;> (intro h; first | (exfalso; omega) | skip)) | fail)
    all_goals try (first | exact True.intro | exact not_false | omega | (simp (disch := first | omega | (simp only [go_sem]; omega)) only [go_sem, seval, reduceCtorEq] <;> omega))
    all_goals try (simp (disch := first | omega | (simp only [go_sem]; omega)) only [go_sem, seval, reduceCtorEq])
    all_goals try simp
    all_goals (intro x hx; rcases hx with hx | rfl | rfl | rfl; (· obtain ⟨b, _, rfl⟩ := List.mem_map.1 hx; rfl); all_goals rfl)
end
end Go.Am
