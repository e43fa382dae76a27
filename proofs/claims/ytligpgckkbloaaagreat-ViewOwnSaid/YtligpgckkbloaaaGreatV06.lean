/- View chapter: the law's same. -/
import Derived.Test.YtligpgckkbloaaaGreatV05
set_option linter.unusedVariables false
set_option linter.unusedSimpArgs false
namespace Go.Am
open Go Go.Proofs
set_option maxHeartbeats 8000000
set_option maxRecDepth 100000
section
attribute [local irreducible] aC aL thenQ blockQ scopeQ ALoop AWp
theorem law_same (a b : Ow) (ha : a.Ok) (hb : b.Ok) (n1 n2 m1 m2 : Bool) :
    APure cx 9 [.agg (owC a n1 n2), .agg (owC b m1 m2)] (.bool (sameOw a b)) := by
  have hm := ha.m32
  have hm' := hb.m32
  have j1 := drop32 hm
  have j2 := drop32 hm'
  have j3 := get32 hm
  have j4 := get32 hm'
  have j5 := take32 hm
  have j6 := take32 hm'
  have z1 : skbs (bl a.m) (bl (List.replicate 32 0)) = true := skbs_by (by rw [hm]; rfl)
  have z2 : skbs (bl b.m) (bl (List.replicate 32 0)) = true := skbs_by (by rw [hm']; rfl)
  have hp2 := ha.p2
  have hq2 := hb.p2
  have hr2 := ha.r2
  have hs2 := hb.r2
  have hp1 := ha.p1
  have hr1 := ha.r1
  have hpe : ¬ a.p.length = b.p.length → ¬ a.p = b.p := fun h e => h (by rw [e])
  have hre : ¬ a.r.length = b.r.length → ¬ a.r = b.r := fun h e => h (by rw [e])
  unfold owC sameOw
  clear ha hb
  obtain ⟨i, s, m, c, p, r⟩ := a
  obtain ⟨i', s', m', c', p', r'⟩ := b
  simp only at *
  have hbi : ((i : Int) = (i' : Int)) = (decide (i = i') = true) := by rw [decide_eq_true_iff]; exact propext (by omega)
  have hbs : (s = s') = (decide (s = s') = true) := by rw [decide_eq_true_iff]
  have hbm : (bl m = bl m') = (decide (m = m') = true) := by rw [decide_eq_true_iff]; exact propext ⟨bl_inj, fun e => by rw [e]⟩
  have hbc : ((c : Int) = (c' : Int)) = (decide (c = c') = true) := by rw [decide_eq_true_iff]; exact propext (by omega)
  generalize decide (i = i') = bi at *
  generalize decide (s = s') = bs at *
  generalize decide (m = m') = bm at *
  generalize decide (c = c') = bc at *
  by_cases h0 : bi = false ∨ (bi = true ∧ bs = false) ∨ (bi = true ∧ bs = true ∧ bm = false) ∨ (bi = true ∧ bs = true ∧ bm = true ∧ bc = false)
  · have hres : (bi && (bs && (bm && (bc && (decide (p = p') && decide (r = r')))))) = false := by
      rcases h0 with rfl | ⟨rfl, rfl⟩ | ⟨rfl, rfl, rfl⟩ | ⟨rfl, rfl, rfl, rfl⟩ <;> simp
    rw [hres]
    rcases h0 with rfl | ⟨rfl, rfl⟩ | ⟨rfl, rfl, rfl⟩ | ⟨rfl, rfl, rfl, rfl⟩
    all_goals
      refine pure_fnK cxOk Tryz.func9 (fun _ => false) (fe9.q) (by kernel_rfl) (by dsimp only [Tryz.f9, go_sem, seval, liteO, Option.map, List.map]; exact .mk _) ?_
      dsimp only [Tryz.f9, frame0, List.zipIdx, List.map, Nat.reduceAdd]
      try simp only [List.getElem?_toArray, List.getElem?_cons_succ, List.getElem?_cons_zero, Option.bind_some]
      repeat' (first | refine aC_seq ?_ | refine aC_reg rfl ?_ | refine aC_block ?_ | refine aC_skip ?_ | refine aC_loop ?_ | refine aC_scope ?_ | refine scopeQ_normal ?_ | refine scopeQ_exit ?_ | refine scopeQ_ret ?_ | refine aC_exit ?_ | refine aC_ret ?_ | refine thenQ_normal ?_ | refine blockQ_normal ?_ | refine thenQ_ret ?_ | refine blockQ_ret ?_ | refine thenQ_exit ?_ | refine blockQ_hit ?_ | refine blockQ_miss rfl ?_ | refine aL_nil ?_ | (apply aL_step; (· exact True.intro); (iterate 2 (· simp (disch := first | omega | (simp only [go_sem]; omega)) only [go_sem, seval, reduceCtorEq, hbi, hbs, hbm, hbc, eq_self_iff_true, decide_true, decide_false, reduceCtorEq, not_false_eq_true, not_true_eq_false, hm, hm', j1, j2, j3, j4, j5, j6] <;> with_reducible rfl)); (· simp only [go_sem] <;> with_reducible rfl)) | (refine aL_skip ?_ (by simp only [go_sem] <;> with_reducible rfl) ?_; (· simp (disch := first | omega | (simp only [go_sem]; omega)) only [go_sem, seval, reduceCtorEq, hbi, hbs, hbm, hbc, eq_self_iff_true, decide_true, decide_false, reduceCtorEq, not_false_eq_true, not_true_eq_false, hm, hm', j1, j2, j3, j4, j5, j6])) | (apply aL_guardN; (· simp (disch := first | omega | (simp only [go_sem]; omega)) only [go_sem, seval, reduceCtorEq, hbi, hbs, hbm, hbc, eq_self_iff_true, decide_true, decide_false, reduceCtorEq, not_false_eq_true, not_true_eq_false, hm, hm', j1, j2, j3, j4, j5, j6] <;> with_reducible rfl); all_goals (intro h; first | (exfalso; omega) | (simp only [h, decide_true, decide_false, not_true, not_false_iff]))) | (apply aL_guardP; (· simp (disch := first | omega | (simp only [go_sem]; omega)) only [go_sem, seval, reduceCtorEq, hbi, hbs, hbm, hbc, eq_self_iff_true, decide_true, decide_false, reduceCtorEq, not_false_eq_true, not_true_eq_false, hm, hm', j1, j2, j3, j4, j5, j6] <;> with_reducible rfl); all_goals (intro h; first | (exfalso; omega) | (simp only [h, decide_true, decide_false, not_true, not_false_iff]))) | (refine aC_condT ?_ ?_; (· simp (disch := first | omega | (simp only [go_sem]; omega)) only [go_sem, seval, reduceCtorEq, hbi, hbs, hbm, hbc, eq_self_iff_true, decide_true, decide_false, reduceCtorEq, not_false_eq_true, not_true_eq_false, hm, hm', j1, j2, j3, j4, j5, j6])) | (refine aC_condF ?_ ?_; (· simp (disch := first | omega | (simp only [go_sem]; omega)) only [go_sem, seval, reduceCtorEq, hbi, hbs, hbm, hbc, eq_self_iff_true, decide_true, decide_false, reduceCtorEq, not_false_eq_true, not_true_eq_false, hm, hm', j1, j2, j3, j4, j5, j6])) | (refine aC_condP (by simp (disch := first | omega | (simp only [go_sem]; omega)) only [go_sem, seval, reduceCtorEq, hbi, hbs, hbm, hbc, eq_self_iff_true, decide_true, decide_false, reduceCtorEq, not_false_eq_true, not_true_eq_false, hm, hm', j1, j2, j3, j4, j5, j6] <;> with_reducible rfl) ?_ ?_ <;> (intro h; first | (exfalso; omega) | skip)) | fail)
      all_goals try (first | exact True.intro | exact not_false | omega | (simp (disch := first | omega | (simp only [go_sem]; omega)) only [go_sem, seval, reduceCtorEq] <;> omega))
      all_goals try (exact ⟨by kernel_rfl, by kernel_rfl, z1, z2⟩)
      all_goals try (simp (disch := first | omega | (simp only [go_sem]; omega)) only [go_sem, seval, reduceCtorEq])
      all_goals try (exact ⟨by kernel_rfl, by kernel_rfl, z1, z2⟩)
      all_goals try simp
      all_goals (intro x hx; rcases hx with hx | rfl | rfl | rfl; (· obtain ⟨b, _, rfl⟩ := List.mem_map.1 hx; rfl); all_goals rfl)
  · have h1 : bi = true ∧ bs = true ∧ bm = true ∧ bc = true := by
      revert h0
      cases bi <;> cases bs <;> cases bm <;> cases bc <;> simp
    clear h0
    obtain ⟨rfl, rfl, rfl, rfl⟩ := h1
    simp only [Bool.true_and]
    by_cases hlp : p.length = p'.length
    case neg =>
      rw [decide_eq_false (hpe hlp)]
      have hlp' : ¬ ((p.length : Int) = (p'.length : Int)) := by omega
      refine pure_fnK cxOk Tryz.func9 (fun _ => false) (fe9.q) (by kernel_rfl) (by dsimp only [Tryz.f9, go_sem, seval, liteO, Option.map, List.map]; exact .mk _) ?_
      dsimp only [Tryz.f9, frame0, List.zipIdx, List.map, Nat.reduceAdd]
      try simp only [List.getElem?_toArray, List.getElem?_cons_succ, List.getElem?_cons_zero, Option.bind_some]
      repeat' (first | refine aC_seq ?_ | refine aC_reg rfl ?_ | refine aC_block ?_ | refine aC_skip ?_ | refine aC_loop ?_ | refine aC_scope ?_ | refine scopeQ_normal ?_ | refine scopeQ_exit ?_ | refine scopeQ_ret ?_ | refine aC_exit ?_ | refine aC_ret ?_ | refine thenQ_normal ?_ | refine blockQ_normal ?_ | refine thenQ_ret ?_ | refine blockQ_ret ?_ | refine thenQ_exit ?_ | refine blockQ_hit ?_ | refine blockQ_miss rfl ?_ | refine aL_nil ?_ | (apply aL_step; (· exact True.intro); (iterate 2 (· simp (disch := first | omega | (simp only [go_sem]; omega)) only [go_sem, seval, reduceCtorEq, hbi, hbs, hbm, hbc, hlp', eq_self_iff_true, decide_true, decide_false, reduceCtorEq, not_false_eq_true, not_true_eq_false, hm, hm', j1, j2, j3, j4, j5, j6] <;> with_reducible rfl)); (· simp only [go_sem] <;> with_reducible rfl)) | (refine aL_skip ?_ (by simp only [go_sem] <;> with_reducible rfl) ?_; (· simp (disch := first | omega | (simp only [go_sem]; omega)) only [go_sem, seval, reduceCtorEq, hbi, hbs, hbm, hbc, hlp', eq_self_iff_true, decide_true, decide_false, reduceCtorEq, not_false_eq_true, not_true_eq_false, hm, hm', j1, j2, j3, j4, j5, j6])) | (apply aL_guardN; (· simp (disch := first | omega | (simp only [go_sem]; omega)) only [go_sem, seval, reduceCtorEq, hbi, hbs, hbm, hbc, hlp', eq_self_iff_true, decide_true, decide_false, reduceCtorEq, not_false_eq_true, not_true_eq_false, hm, hm', j1, j2, j3, j4, j5, j6] <;> with_reducible rfl); all_goals (intro h; first | (exfalso; omega) | (simp only [h, decide_true, decide_false, not_true, not_false_iff]))) | (apply aL_guardP; (· simp (disch := first | omega | (simp only [go_sem]; omega)) only [go_sem, seval, reduceCtorEq, hbi, hbs, hbm, hbc, hlp', eq_self_iff_true, decide_true, decide_false, reduceCtorEq, not_false_eq_true, not_true_eq_false, hm, hm', j1, j2, j3, j4, j5, j6] <;> with_reducible rfl); all_goals (intro h; first | (exfalso; omega) | (simp only [h, decide_true, decide_false, not_true, not_false_iff]))) | (refine aC_condT ?_ ?_; (· simp (disch := first | omega | (simp only [go_sem]; omega)) only [go_sem, seval, reduceCtorEq, hbi, hbs, hbm, hbc, hlp', eq_self_iff_true, decide_true, decide_false, reduceCtorEq, not_false_eq_true, not_true_eq_false, hm, hm', j1, j2, j3, j4, j5, j6])) | (refine aC_condF ?_ ?_; (· simp (disch := first | omega | (simp only [go_sem]; omega)) only [go_sem, seval, reduceCtorEq, hbi, hbs, hbm, hbc, hlp', eq_self_iff_true, decide_true, decide_false, reduceCtorEq, not_false_eq_true, not_true_eq_false, hm, hm', j1, j2, j3, j4, j5, j6])) | (refine aC_condP (by simp (disch := first | omega | (simp only [go_sem]; omega)) only [go_sem, seval, reduceCtorEq, hbi, hbs, hbm, hbc, hlp', eq_self_iff_true, decide_true, decide_false, reduceCtorEq, not_false_eq_true, not_true_eq_false, hm, hm', j1, j2, j3, j4, j5, j6] <;> with_reducible rfl) ?_ ?_ <;> (intro h; first | (exfalso; omega) | skip)) | fail)
      all_goals try (first | exact True.intro | exact not_false | omega | (simp (disch := first | omega | (simp only [go_sem]; omega)) only [go_sem, seval, reduceCtorEq] <;> omega))
      all_goals try (exact ⟨by kernel_rfl, by kernel_rfl, z1, z2⟩)
      all_goals try (simp (disch := first | omega | (simp only [go_sem]; omega)) only [go_sem, seval, reduceCtorEq])
      all_goals try (exact ⟨by kernel_rfl, by kernel_rfl, z1, z2⟩)
      all_goals try simp
      all_goals (intro x hx; rcases hx with hx | rfl | rfl | rfl; (· obtain ⟨b, _, rfl⟩ := List.mem_map.1 hx; rfl); all_goals rfl)
    case pos =>
      by_cases hlr : r.length = r'.length
      case neg =>
        rw [decide_eq_false (hre hlr)]
        have hlp' : ((p.length : Int) = (p'.length : Int)) := by omega
        have hlr' : ¬ ((r.length : Int) = (r'.length : Int)) := by omega
        refine pure_fnK cxOk Tryz.func9 (fun _ => false) (fe9.q) (by kernel_rfl) (by dsimp only [Tryz.f9, go_sem, seval, liteO, Option.map, List.map]; exact .mk _) ?_
        dsimp only [Tryz.f9, frame0, List.zipIdx, List.map, Nat.reduceAdd]
        try simp only [List.getElem?_toArray, List.getElem?_cons_succ, List.getElem?_cons_zero, Option.bind_some]
        repeat' (first | refine aC_seq ?_ | refine aC_reg rfl ?_ | refine aC_block ?_ | refine aC_skip ?_ | refine aC_loop ?_ | refine aC_scope ?_ | refine scopeQ_normal ?_ | refine scopeQ_exit ?_ | refine scopeQ_ret ?_ | refine aC_exit ?_ | refine aC_ret ?_ | refine thenQ_normal ?_ | refine blockQ_normal ?_ | refine thenQ_ret ?_ | refine blockQ_ret ?_ | refine thenQ_exit ?_ | refine blockQ_hit ?_ | refine blockQ_miss rfl ?_ | refine aL_nil ?_ | (apply aL_step; (· exact True.intro); (iterate 2 (· simp (disch := first | omega | (simp only [go_sem]; omega)) only [go_sem, seval, reduceCtorEq, hbi, hbs, hbm, hbc, hlp', hlr', eq_self_iff_true, decide_true, decide_false, reduceCtorEq, not_false_eq_true, not_true_eq_false, hm, hm', j1, j2, j3, j4, j5, j6] <;> with_reducible rfl)); (· simp only [go_sem] <;> with_reducible rfl)) | (refine aL_skip ?_ (by simp only [go_sem] <;> with_reducible rfl) ?_; (· simp (disch := first | omega | (simp only [go_sem]; omega)) only [go_sem, seval, reduceCtorEq, hbi, hbs, hbm, hbc, hlp', hlr', eq_self_iff_true, decide_true, decide_false, reduceCtorEq, not_false_eq_true, not_true_eq_false, hm, hm', j1, j2, j3, j4, j5, j6])) | (apply aL_guardN; (· simp (disch := first | omega | (simp only [go_sem]; omega)) only [go_sem, seval, reduceCtorEq, hbi, hbs, hbm, hbc, hlp', hlr', eq_self_iff_true, decide_true, decide_false, reduceCtorEq, not_false_eq_true, not_true_eq_false, hm, hm', j1, j2, j3, j4, j5, j6] <;> with_reducible rfl); all_goals (intro h; first | (exfalso; omega) | (simp only [h, decide_true, decide_false, not_true, not_false_iff]))) | (apply aL_guardP; (· simp (disch := first | omega | (simp only [go_sem]; omega)) only [go_sem, seval, reduceCtorEq, hbi, hbs, hbm, hbc, hlp', hlr', eq_self_iff_true, decide_true, decide_false, reduceCtorEq, not_false_eq_true, not_true_eq_false, hm, hm', j1, j2, j3, j4, j5, j6] <;> with_reducible rfl); all_goals (intro h; first | (exfalso; omega) | (simp only [h, decide_true, decide_false, not_true, not_false_iff]))) | (refine aC_condT ?_ ?_; (· simp (disch := first | omega | (simp only [go_sem]; omega)) only [go_sem, seval, reduceCtorEq, hbi, hbs, hbm, hbc, hlp', hlr', eq_self_iff_true, decide_true, decide_false, reduceCtorEq, not_false_eq_true, not_true_eq_false, hm, hm', j1, j2, j3, j4, j5, j6])) | (refine aC_condF ?_ ?_; (· simp (disch := first | omega | (simp only [go_sem]; omega)) only [go_sem, seval, reduceCtorEq, hbi, hbs, hbm, hbc, hlp', hlr', eq_self_iff_true, decide_true, decide_false, reduceCtorEq, not_false_eq_true, not_true_eq_false, hm, hm', j1, j2, j3, j4, j5, j6])) | (refine aC_condP (by simp (disch := first | omega | (simp only [go_sem]; omega)) only [go_sem, seval, reduceCtorEq, hbi, hbs, hbm, hbc, hlp', hlr', eq_self_iff_true, decide_true, decide_false, reduceCtorEq, not_false_eq_true, not_true_eq_false, hm, hm', j1, j2, j3, j4, j5, j6] <;> with_reducible rfl) ?_ ?_ <;> (intro h; first | (exfalso; omega) | skip)) | fail)
        all_goals try (first | exact True.intro | exact not_false | omega | (simp (disch := first | omega | (simp only [go_sem]; omega)) only [go_sem, seval, reduceCtorEq] <;> omega))
        all_goals try (exact ⟨by kernel_rfl, by kernel_rfl, z1, z2⟩)
        all_goals try (simp (disch := first | omega | (simp only [go_sem]; omega)) only [go_sem, seval, reduceCtorEq])
        all_goals try (exact ⟨by kernel_rfl, by kernel_rfl, z1, z2⟩)
        all_goals try simp
        all_goals (intro x hx; rcases hx with hx | rfl | rfl | rfl; (· obtain ⟨b, _, rfl⟩ := List.mem_map.1 hx; rfl); all_goals rfl)
      case pos =>
        generalize hR : (decide (p = p') && decide (r = r')) = R
        have hyes : p.take p.length = p'.take p.length → r.take r.length = r'.take r.length → R = true := fun h h2 => by
          rw [List.take_length] at h h2
          rw [hlp, List.take_length] at h
          rw [hlr, List.take_length] at h2
          rw [← hR, h, h2]; simp
        have hno1 : ∀ (k : Nat) (h1 : k < p.length) (h2 : k < p'.length), ¬ p[k] = p'[k] → R = false := fun k h1 h2 h3 => by rw [← hR, decide_eq_false (ne_at h1 h2 h3)]; rfl
        have hno2 : ∀ (k : Nat) (h1 : k < r.length) (h2 : k < r'.length), ¬ r[k] = r'[k] → R = false := fun k h1 h2 h3 => by rw [← hR, decide_eq_false (ne_at h1 h2 h3), Bool.and_false]
        clear hR
        have hlp' : ((p.length : Int) = (p'.length : Int)) := by omega
        have hlr' : ((r.length : Int) = (r'.length : Int)) := by omega
        refine pure_fnK cxOk Tryz.func9 (fun _ => false) (fe9.q) (by kernel_rfl) (by dsimp only [Tryz.f9, go_sem, seval, liteO, Option.map, List.map]; exact .mk _) ?_
        dsimp only [Tryz.f9, frame0, List.zipIdx, List.map, Nat.reduceAdd]
        try simp only [List.getElem?_toArray, List.getElem?_cons_succ, List.getElem?_cons_zero, Option.bind_some]
        repeat' (first | refine aC_seq ?_ | refine aC_reg rfl ?_ | refine aC_block ?_ | refine aC_skip ?_ | refine aC_loop ?_ | refine aC_scope ?_ | refine scopeQ_normal ?_ | refine scopeQ_exit ?_ | refine scopeQ_ret ?_ | refine aC_exit ?_ | refine aC_ret ?_ | refine thenQ_normal ?_ | refine blockQ_normal ?_ | refine thenQ_ret ?_ | refine blockQ_ret ?_ | refine thenQ_exit ?_ | refine blockQ_hit ?_ | refine blockQ_miss rfl ?_ | refine aL_nil ?_ | (apply aL_step; (· exact True.intro); (iterate 2 (· simp (disch := first | omega | (simp only [go_sem]; omega)) only [go_sem, seval, reduceCtorEq, hbi, hbs, hbm, hbc, hlp', hlr', eq_self_iff_true, decide_true, decide_false, reduceCtorEq, not_false_eq_true, not_true_eq_false, hm, hm', j1, j2, j3, j4, j5, j6] <;> with_reducible rfl)); (· simp only [go_sem] <;> with_reducible rfl)) | (refine aL_skip ?_ (by simp only [go_sem] <;> with_reducible rfl) ?_; (· simp (disch := first | omega | (simp only [go_sem]; omega)) only [go_sem, seval, reduceCtorEq, hbi, hbs, hbm, hbc, hlp', hlr', eq_self_iff_true, decide_true, decide_false, reduceCtorEq, not_false_eq_true, not_true_eq_false, hm, hm', j1, j2, j3, j4, j5, j6])) | (apply aL_guardN; (· simp (disch := first | omega | (simp only [go_sem]; omega)) only [go_sem, seval, reduceCtorEq, hbi, hbs, hbm, hbc, hlp', hlr', eq_self_iff_true, decide_true, decide_false, reduceCtorEq, not_false_eq_true, not_true_eq_false, hm, hm', j1, j2, j3, j4, j5, j6] <;> with_reducible rfl); all_goals (intro h; first | (exfalso; omega) | (simp only [h, decide_true, decide_false, not_true, not_false_iff]))) | (apply aL_guardP; (· simp (disch := first | omega | (simp only [go_sem]; omega)) only [go_sem, seval, reduceCtorEq, hbi, hbs, hbm, hbc, hlp', hlr', eq_self_iff_true, decide_true, decide_false, reduceCtorEq, not_false_eq_true, not_true_eq_false, hm, hm', j1, j2, j3, j4, j5, j6] <;> with_reducible rfl); all_goals (intro h; first | (exfalso; omega) | (simp only [h, decide_true, decide_false, not_true, not_false_iff]))) | (refine aC_condT ?_ ?_; (· simp (disch := first | omega | (simp only [go_sem]; omega)) only [go_sem, seval, reduceCtorEq, hbi, hbs, hbm, hbc, hlp', hlr', eq_self_iff_true, decide_true, decide_false, reduceCtorEq, not_false_eq_true, not_true_eq_false, hm, hm', j1, j2, j3, j4, j5, j6])) | (refine aC_condF ?_ ?_; (· simp (disch := first | omega | (simp only [go_sem]; omega)) only [go_sem, seval, reduceCtorEq, hbi, hbs, hbm, hbc, hlp', hlr', eq_self_iff_true, decide_true, decide_false, reduceCtorEq, not_false_eq_true, not_true_eq_false, hm, hm', j1, j2, j3, j4, j5, j6])) | (refine aC_condP (by simp (disch := first | omega | (simp only [go_sem]; omega)) only [go_sem, seval, reduceCtorEq, hbi, hbs, hbm, hbc, hlp', hlr', eq_self_iff_true, decide_true, decide_false, reduceCtorEq, not_false_eq_true, not_true_eq_false, hm, hm', j1, j2, j3, j4, j5, j6] <;> with_reducible rfl) ?_ ?_ <;> (intro h; first | (exfalso; omega) | skip)) | fail)
        · refine loop_rule (cxOk.wp _ _) (σ := Nat) (fun k => [(5, .int .i64 k), (4, .bool false), (3, .ptr 1 0), (2, .ptr 0 0)])
            (fun _ => [.cells (.int .u64 (i : Nat) :: .int .i64 s :: (bl m ++ [.int .u64 (c : Nat), .sl 129 n1 (els pgC p) .any, .sl 14 n2 (els rcC r) .any])) 40, .cells (.int .u64 (i' : Nat) :: .int .i64 s' :: (bl m' ++ [.int .u64 (c' : Nat), .sl 129 m1 (els pgC p') .any, .sl 14 m2 (els rcC r') .any])) 40]) (fun k => p.length - k) (fun k => k ≤ p.length ∧ p.take k = p'.take k) 0 (GStep.refl _ _) ⟨⟨Nat.zero_le _, by simp⟩, Sub.of_all (by simp [Fr.get, frame0]), rfl⟩ ?_
          rintro k ⟨hk, hJ⟩
          by_cases hlt : k < p.length
          · have hlb : k < p'.length := by omega
            have g1 := getD_els pgC p k .any hlt
            have g2 := getD_els pgC p' k .any hlb
            have l1 := hp2 _ (List.getElem_mem hlt)
            have l2 := hq2 _ (List.getElem_mem hlb)
            have t1 : (pgC p[k]).take 129 = pgC p[k] := List.take_of_length_le (Nat.le_of_eq (pg_sz _ l1))
            have t2 : (pgC p'[k]).take 129 = pgC p'[k] := List.take_of_length_le (Nat.le_of_eq (pg_sz _ l2))
            have s1 : 129 ≤ (pgC p[k]).length := Nat.le_of_eq (pg_sz _ l1).symm
            have s2 : 129 ≤ (pgC p'[k]).length := Nat.le_of_eq (pg_sz _ l2).symm
            have w1 := pg_z _ l1
            have w2 := pg_z _ l2
            have y1 := pg_inj _ _ l1 l2
            have hq := take_step hlt hlb hJ
            have hq2 := hno1 k hlt hlb
            clear hno1 hno2 hyes hJ
            by_cases he : p[k] = p'[k]
            case' pos => have hq3 := hq he; clear hq2 hq; have e1 := congrArg pgC he; clear y1
            case' neg => rw [hq2 he]; clear hq hq2; have e1 : ¬ pgC p[k] = pgC p'[k] := fun e => he (y1 e); clear y1
            all_goals
            generalize p[k] = x at *
            generalize p'[k] = y at *
            repeat' (first | refine aC_seq ?_ | refine aC_reg rfl ?_ | refine aC_block ?_ | refine aC_skip ?_ | refine aC_loop ?_ | refine aC_scope ?_ | refine scopeQ_normal ?_ | refine scopeQ_exit ?_ | refine scopeQ_ret ?_ | refine aC_exit ?_ | refine aC_ret ?_ | refine thenQ_normal ?_ | refine blockQ_normal ?_ | refine thenQ_ret ?_ | refine blockQ_ret ?_ | refine thenQ_exit ?_ | refine blockQ_hit ?_ | refine blockQ_miss rfl ?_ | refine aL_nil ?_ | (apply aL_step; (· exact True.intro); (iterate 2 (· simp (disch := first | omega | (simp only [go_sem]; omega)) only [go_sem, seval, reduceCtorEq, g1, g2, t1, t2, e1, eq_self_iff_true, decide_true, decide_false, reduceCtorEq, not_false_eq_true, not_true_eq_false, hm, hm', j1, j2, j3, j4, j5, j6] <;> with_reducible rfl)); (· simp only [go_sem] <;> with_reducible rfl)) | (refine aL_skip ?_ (by simp only [go_sem] <;> with_reducible rfl) ?_; (· simp (disch := first | omega | (simp only [go_sem]; omega)) only [go_sem, seval, reduceCtorEq, g1, g2, t1, t2, e1, eq_self_iff_true, decide_true, decide_false, reduceCtorEq, not_false_eq_true, not_true_eq_false, hm, hm', j1, j2, j3, j4, j5, j6])) | (apply aL_guardN; (· simp (disch := first | omega | (simp only [go_sem]; omega)) only [go_sem, seval, reduceCtorEq, g1, g2, t1, t2, e1, eq_self_iff_true, decide_true, decide_false, reduceCtorEq, not_false_eq_true, not_true_eq_false, hm, hm', j1, j2, j3, j4, j5, j6] <;> with_reducible rfl); all_goals (intro h; first | (exfalso; omega) | (simp only [h, decide_true, decide_false, not_true, not_false_iff]))) | (apply aL_guardP; (· simp (disch := first | omega | (simp only [go_sem]; omega)) only [go_sem, seval, reduceCtorEq, g1, g2, t1, t2, e1, eq_self_iff_true, decide_true, decide_false, reduceCtorEq, not_false_eq_true, not_true_eq_false, hm, hm', j1, j2, j3, j4, j5, j6] <;> with_reducible rfl); all_goals (intro h; first | (exfalso; omega) | (simp only [h, decide_true, decide_false, not_true, not_false_iff]))) | (refine aC_condT ?_ ?_; (· simp (disch := first | omega | (simp only [go_sem]; omega)) only [go_sem, seval, reduceCtorEq, g1, g2, t1, t2, e1, eq_self_iff_true, decide_true, decide_false, reduceCtorEq, not_false_eq_true, not_true_eq_false, hm, hm', j1, j2, j3, j4, j5, j6])) | (refine aC_condF ?_ ?_; (· simp (disch := first | omega | (simp only [go_sem]; omega)) only [go_sem, seval, reduceCtorEq, g1, g2, t1, t2, e1, eq_self_iff_true, decide_true, decide_false, reduceCtorEq, not_false_eq_true, not_true_eq_false, hm, hm', j1, j2, j3, j4, j5, j6])) | (refine aC_condP (by simp (disch := first | omega | (simp only [go_sem]; omega)) only [go_sem, seval, reduceCtorEq, g1, g2, t1, t2, e1, eq_self_iff_true, decide_true, decide_false, reduceCtorEq, not_false_eq_true, not_true_eq_false, hm, hm', j1, j2, j3, j4, j5, j6] <;> with_reducible rfl) ?_ ?_ <;> (intro h; first | (exfalso; omega) | skip)) | fail)
            all_goals try (first | exact True.intro | exact not_false | omega | (simp (disch := first | omega | (simp only [go_sem]; omega)) only [go_sem, seval, reduceCtorEq] <;> omega))
            all_goals try (exact ⟨k + 1, ⟨by omega, hq3⟩, Sub.of_all (by simp [Fr.get]), rfl, by omega⟩)
            all_goals try exact s1
            all_goals try exact s2
            all_goals try (simp (disch := first | omega | (simp only [go_sem]; omega)) only [go_sem, seval, reduceCtorEq, t1, t2, e1, eq_self_iff_true, decide_true, decide_false, reduceCtorEq, not_false_eq_true, not_true_eq_false, hm, hm', j1, j2, j3, j4, j5, j6])
            all_goals try exact s1
            all_goals try exact s2
            all_goals try (exact ⟨by kernel_rfl, by kernel_rfl, w2⟩)
            all_goals try (exact ⟨by kernel_rfl, by kernel_rfl, w2, w2⟩)
            all_goals try (exact ⟨by kernel_rfl, by kernel_rfl, w1, w2⟩)
            all_goals try simp
          · have hk2 : k = p.length := by omega
            subst hk2
            have hyes2 := hyes hJ
            clear hyes hno1 hJ
            repeat' (first | refine aC_seq ?_ | refine aC_reg rfl ?_ | refine aC_block ?_ | refine aC_skip ?_ | refine aC_loop ?_ | refine aC_scope ?_ | refine scopeQ_normal ?_ | refine scopeQ_exit ?_ | refine scopeQ_ret ?_ | refine aC_exit ?_ | refine aC_ret ?_ | refine thenQ_normal ?_ | refine blockQ_normal ?_ | refine thenQ_ret ?_ | refine blockQ_ret ?_ | refine thenQ_exit ?_ | refine blockQ_hit ?_ | refine blockQ_miss rfl ?_ | refine aL_nil ?_ | (apply aL_step; (· exact True.intro); (iterate 2 (· simp (disch := first | omega | (simp only [go_sem]; omega)) only [go_sem, seval, reduceCtorEq, eq_self_iff_true, decide_true, decide_false, reduceCtorEq, not_false_eq_true, not_true_eq_false, hm, hm', j1, j2, j3, j4, j5, j6] <;> with_reducible rfl)); (· simp only [go_sem] <;> with_reducible rfl)) | (refine aL_skip ?_ (by simp only [go_sem] <;> with_reducible rfl) ?_; (· simp (disch := first | omega | (simp only [go_sem]; omega)) only [go_sem, seval, reduceCtorEq, eq_self_iff_true, decide_true, decide_false, reduceCtorEq, not_false_eq_true, not_true_eq_false, hm, hm', j1, j2, j3, j4, j5, j6])) | (apply aL_guardN; (· simp (disch := first | omega | (simp only [go_sem]; omega)) only [go_sem, seval, reduceCtorEq, eq_self_iff_true, decide_true, decide_false, reduceCtorEq, not_false_eq_true, not_true_eq_false, hm, hm', j1, j2, j3, j4, j5, j6] <;> with_reducible rfl); all_goals (intro h; first | (exfalso; omega) | (simp only [h, decide_true, decide_false, not_true, not_false_iff]))) | (apply aL_guardP; (· simp (disch := first | omega | (simp only [go_sem]; omega)) only [go_sem, seval, reduceCtorEq, eq_self_iff_true, decide_true, decide_false, reduceCtorEq, not_false_eq_true, not_true_eq_false, hm, hm', j1, j2, j3, j4, j5, j6] <;> with_reducible rfl); all_goals (intro h; first | (exfalso; omega) | (simp only [h, decide_true, decide_false, not_true, not_false_iff]))) | (refine aC_condT ?_ ?_; (· simp (disch := first | omega | (simp only [go_sem]; omega)) only [go_sem, seval, reduceCtorEq, eq_self_iff_true, decide_true, decide_false, reduceCtorEq, not_false_eq_true, not_true_eq_false, hm, hm', j1, j2, j3, j4, j5, j6])) | (refine aC_condF ?_ ?_; (· simp (disch := first | omega | (simp only [go_sem]; omega)) only [go_sem, seval, reduceCtorEq, eq_self_iff_true, decide_true, decide_false, reduceCtorEq, not_false_eq_true, not_true_eq_false, hm, hm', j1, j2, j3, j4, j5, j6])) | (refine aC_condP (by simp (disch := first | omega | (simp only [go_sem]; omega)) only [go_sem, seval, reduceCtorEq, eq_self_iff_true, decide_true, decide_false, reduceCtorEq, not_false_eq_true, not_true_eq_false, hm, hm', j1, j2, j3, j4, j5, j6] <;> with_reducible rfl) ?_ ?_ <;> (intro h; first | (exfalso; omega) | skip)) | fail)
            · refine loop_rule (cxOk.wp _ _) (σ := Nat) (fun k => [(6, .int .i64 k), (4, .bool false), (3, .ptr 1 0), (2, .ptr 0 0)])
                (fun _ => [.cells (.int .u64 (i : Nat) :: .int .i64 s :: (bl m ++ [.int .u64 (c : Nat), .sl 129 n1 (els pgC p) .any, .sl 14 n2 (els rcC r) .any])) 40, .cells (.int .u64 (i' : Nat) :: .int .i64 s' :: (bl m' ++ [.int .u64 (c' : Nat), .sl 129 m1 (els pgC p') .any, .sl 14 m2 (els rcC r') .any])) 40]) (fun k => r.length - k) (fun k => k ≤ r.length ∧ r.take k = r'.take k) 0 (GStep.refl _ _) ⟨⟨Nat.zero_le _, by simp⟩, Sub.of_all (by simp [Fr.get, frame0]), rfl⟩ ?_
              rintro l ⟨hl, hJ2⟩
              by_cases hlt : l < r.length
              · have hlb : l < r'.length := by omega
                have g1 := getD_els rcC r l .any hlt
                have g2 := getD_els rcC r' l .any hlb
                have l1 := hr2 _ (List.getElem_mem hlt)
                have l2 := hs2 _ (List.getElem_mem hlb)
                have t1 : (rcC r[l]).take 14 = rcC r[l] := List.take_of_length_le (Nat.le_of_eq (rc_sz _ l1))
                have t2 : (rcC r'[l]).take 14 = rcC r'[l] := List.take_of_length_le (Nat.le_of_eq (rc_sz _ l2))
                have s1 : 14 ≤ (rcC r[l]).length := Nat.le_of_eq (rc_sz _ l1).symm
                have s2 : 14 ≤ (rcC r'[l]).length := Nat.le_of_eq (rc_sz _ l2).symm
                have w1 := rc_z _ l1
                have w2 := rc_z _ l2
                have y1 := rc_inj _ _ l1 l2
                have hq := take_step hlt hlb hJ2
                have hq2 := hno2 l hlt hlb
                clear hno2 hyes2 hJ2
                by_cases he : r[l] = r'[l]
                case' pos => have hq3 := hq he; clear hq2 hq; have e1 := congrArg rcC he; clear y1
                case' neg => rw [hq2 he]; clear hq hq2; have e1 : ¬ rcC r[l] = rcC r'[l] := fun e => he (y1 e); clear y1
                all_goals
                generalize r[l] = x at *
                generalize r'[l] = y at *
                repeat' (first | refine aC_seq ?_ | refine aC_reg rfl ?_ | refine aC_block ?_ | refine aC_skip ?_ | refine aC_loop ?_ | refine aC_scope ?_ | refine scopeQ_normal ?_ | refine scopeQ_exit ?_ | refine scopeQ_ret ?_ | refine aC_exit ?_ | refine aC_ret ?_ | refine thenQ_normal ?_ | refine blockQ_normal ?_ | refine thenQ_ret ?_ | refine blockQ_ret ?_ | refine thenQ_exit ?_ | refine blockQ_hit ?_ | refine blockQ_miss rfl ?_ | refine aL_nil ?_ | (apply aL_step; (· exact True.intro); (iterate 2 (· simp (disch := first | omega | (simp only [go_sem]; omega)) only [go_sem, seval, reduceCtorEq, g1, g2, t1, t2, e1, eq_self_iff_true, decide_true, decide_false, reduceCtorEq, not_false_eq_true, not_true_eq_false, hm, hm', j1, j2, j3, j4, j5, j6] <;> with_reducible rfl)); (· simp only [go_sem] <;> with_reducible rfl)) | (refine aL_skip ?_ (by simp only [go_sem] <;> with_reducible rfl) ?_; (· simp (disch := first | omega | (simp only [go_sem]; omega)) only [go_sem, seval, reduceCtorEq, g1, g2, t1, t2, e1, eq_self_iff_true, decide_true, decide_false, reduceCtorEq, not_false_eq_true, not_true_eq_false, hm, hm', j1, j2, j3, j4, j5, j6])) | (apply aL_guardN; (· simp (disch := first | omega | (simp only [go_sem]; omega)) only [go_sem, seval, reduceCtorEq, g1, g2, t1, t2, e1, eq_self_iff_true, decide_true, decide_false, reduceCtorEq, not_false_eq_true, not_true_eq_false, hm, hm', j1, j2, j3, j4, j5, j6] <;> with_reducible rfl); all_goals (intro h; first | (exfalso; omega) | (simp only [h, decide_true, decide_false, not_true, not_false_iff]))) | (apply aL_guardP; (· simp (disch := first | omega | (simp only [go_sem]; omega)) only [go_sem, seval, reduceCtorEq, g1, g2, t1, t2, e1, eq_self_iff_true, decide_true, decide_false, reduceCtorEq, not_false_eq_true, not_true_eq_false, hm, hm', j1, j2, j3, j4, j5, j6] <;> with_reducible rfl); all_goals (intro h; first | (exfalso; omega) | (simp only [h, decide_true, decide_false, not_true, not_false_iff]))) | (refine aC_condT ?_ ?_; (· simp (disch := first | omega | (simp only [go_sem]; omega)) only [go_sem, seval, reduceCtorEq, g1, g2, t1, t2, e1, eq_self_iff_true, decide_true, decide_false, reduceCtorEq, not_false_eq_true, not_true_eq_false, hm, hm', j1, j2, j3, j4, j5, j6])) | (refine aC_condF ?_ ?_; (· simp (disch := first | omega | (simp only [go_sem]; omega)) only [go_sem, seval, reduceCtorEq, g1, g2, t1, t2, e1, eq_self_iff_true, decide_true, decide_false, reduceCtorEq, not_false_eq_true, not_true_eq_false, hm, hm', j1, j2, j3, j4, j5, j6])) | (refine aC_condP (by simp (disch := first | omega | (simp only [go_sem]; omega)) only [go_sem, seval, reduceCtorEq, g1, g2, t1, t2, e1, eq_self_iff_true, decide_true, decide_false, reduceCtorEq, not_false_eq_true, not_true_eq_false, hm, hm', j1, j2, j3, j4, j5, j6] <;> with_reducible rfl) ?_ ?_ <;> (intro h; first | (exfalso; omega) | skip)) | fail)
                all_goals try (first | exact True.intro | exact not_false | omega | (simp (disch := first | omega | (simp only [go_sem]; omega)) only [go_sem, seval, reduceCtorEq] <;> omega))
                all_goals try (exact ⟨l + 1, ⟨by omega, hq3⟩, Sub.of_all (by simp [Fr.get]), rfl, by omega⟩)
                all_goals try exact s1
                all_goals try exact s2
                all_goals try (simp (disch := first | omega | (simp only [go_sem]; omega)) only [go_sem, seval, reduceCtorEq, t1, t2, e1, eq_self_iff_true, decide_true, decide_false, reduceCtorEq, not_false_eq_true, not_true_eq_false, hm, hm', j1, j2, j3, j4, j5, j6])
                all_goals try exact s1
                all_goals try exact s2
                all_goals try (exact ⟨by kernel_rfl, by kernel_rfl, w2⟩)
                all_goals try (exact ⟨by kernel_rfl, by kernel_rfl, w2, w2⟩)
                all_goals try (exact ⟨by kernel_rfl, by kernel_rfl, w1, w2⟩)
                all_goals try simp
              · have hk2 : l = r.length := by omega
                subst hk2
                rw [hyes2 hJ2]
                clear hyes2 hno2 hJ2
                repeat' (first | refine aC_seq ?_ | refine aC_reg rfl ?_ | refine aC_block ?_ | refine aC_skip ?_ | refine aC_loop ?_ | refine aC_scope ?_ | refine scopeQ_normal ?_ | refine scopeQ_exit ?_ | refine scopeQ_ret ?_ | refine aC_exit ?_ | refine aC_ret ?_ | refine thenQ_normal ?_ | refine blockQ_normal ?_ | refine thenQ_ret ?_ | refine blockQ_ret ?_ | refine thenQ_exit ?_ | refine blockQ_hit ?_ | refine blockQ_miss rfl ?_ | refine aL_nil ?_ | (apply aL_step; (· exact True.intro); (iterate 2 (· simp (disch := first | omega | (simp only [go_sem]; omega)) only [go_sem, seval, reduceCtorEq, eq_self_iff_true, decide_true, decide_false, reduceCtorEq, not_false_eq_true, not_true_eq_false, hm, hm', j1, j2, j3, j4, j5, j6] <;> with_reducible rfl)); (· simp only [go_sem] <;> with_reducible rfl)) | (refine aL_skip ?_ (by simp only [go_sem] <;> with_reducible rfl) ?_; (· simp (disch := first | omega | (simp only [go_sem]; omega)) only [go_sem, seval, reduceCtorEq, eq_self_iff_true, decide_true, decide_false, reduceCtorEq, not_false_eq_true, not_true_eq_false, hm, hm', j1, j2, j3, j4, j5, j6])) | (apply aL_guardN; (· simp (disch := first | omega | (simp only [go_sem]; omega)) only [go_sem, seval, reduceCtorEq, eq_self_iff_true, decide_true, decide_false, reduceCtorEq, not_false_eq_true, not_true_eq_false, hm, hm', j1, j2, j3, j4, j5, j6] <;> with_reducible rfl); all_goals (intro h; first | (exfalso; omega) | (simp only [h, decide_true, decide_false, not_true, not_false_iff]))) | (apply aL_guardP; (· simp (disch := first | omega | (simp only [go_sem]; omega)) only [go_sem, seval, reduceCtorEq, eq_self_iff_true, decide_true, decide_false, reduceCtorEq, not_false_eq_true, not_true_eq_false, hm, hm', j1, j2, j3, j4, j5, j6] <;> with_reducible rfl); all_goals (intro h; first | (exfalso; omega) | (simp only [h, decide_true, decide_false, not_true, not_false_iff]))) | (refine aC_condT ?_ ?_; (· simp (disch := first | omega | (simp only [go_sem]; omega)) only [go_sem, seval, reduceCtorEq, eq_self_iff_true, decide_true, decide_false, reduceCtorEq, not_false_eq_true, not_true_eq_false, hm, hm', j1, j2, j3, j4, j5, j6])) | (refine aC_condF ?_ ?_; (· simp (disch := first | omega | (simp only [go_sem]; omega)) only [go_sem, seval, reduceCtorEq, eq_self_iff_true, decide_true, decide_false, reduceCtorEq, not_false_eq_true, not_true_eq_false, hm, hm', j1, j2, j3, j4, j5, j6])) | (refine aC_condP (by simp (disch := first | omega | (simp only [go_sem]; omega)) only [go_sem, seval, reduceCtorEq, eq_self_iff_true, decide_true, decide_false, reduceCtorEq, not_false_eq_true, not_true_eq_false, hm, hm', j1, j2, j3, j4, j5, j6] <;> with_reducible rfl) ?_ ?_ <;> (intro h; first | (exfalso; omega) | skip)) | fail)
                all_goals try (first | exact True.intro | exact not_false | omega | (simp (disch := first | omega | (simp only [go_sem]; omega)) only [go_sem, seval, reduceCtorEq] <;> omega))
                all_goals try (simp (disch := first | omega | (simp only [go_sem]; omega)) only [go_sem, seval, reduceCtorEq])
                all_goals try simp
            all_goals first | trivial | omega | simp
        all_goals try (exact ⟨by kernel_rfl, by kernel_rfl, z1, z2⟩)
        all_goals try (first | trivial | omega)
        all_goals try (simp (disch := first | omega | (simp only [go_sem]; omega)) only [go_sem, seval, reduceCtorEq])
        all_goals try simp
        all_goals (intro x hx; rcases hx with hx | rfl | rfl | rfl; (· obtain ⟨b, _, rfl⟩ := List.mem_map.1 hx; rfl); all_goals rfl)
end
end Go.Am
