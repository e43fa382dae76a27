/- Steps (chapter 25): which may be; their lines. -/
import Derived.Test.YtodiaabcaahnjaaGreatDoorS01
set_option linter.unusedVariables false
set_option linter.unusedSimpArgs false
section
namespace Go.Am
open Go Go.Proofs
set_option maxHeartbeats 8000000
set_option maxRecDepth 100000
section
attribute [local irreducible] aC aL thenQ blockQ scopeQ ALoop AWp
theorem script_MayStep (s : Sp) (hs : s.xs.length = 6) (nl : Bool) : APure cx 18 [.agg (spC s nl .any)] (.bool (decide (MayS s))) := by
  have hb := script_bare s hs nl
  have hsm := script_sameStep s (bareS s) hs (bare_len s hs) nl (bareN s.k nl)
  have hm := call_May s.op s.xs hs
  have hd : decide (MayS s) = (decide (1 ≤ s.k) && decide (s.k ≤ 4) && decide (s = bareS s) && decide ((s.b.length : Int) ≤ 4096) && (decide (s.k ≠ 1) || decide (MayC s.op s.xs))) := by
    have : ((s.b.length : Int) ≤ 4096) ↔ s.b.length ≤ 4096 := by omega
    rw [Bool.eq_iff_iff]
    simp only [Bool.and_eq_true, Bool.or_eq_true, decide_eq_true_eq, mayS_iff, and_assoc, this]
  rw [hd]
  obtain ⟨k, op, xs, a, w, b⟩ := s
  obtain ⟨x0, x1, x2, x3, x4, x5, rfl⟩ := six hs
  have hbl := bare_len ⟨k, op, [x0, x1, x2, x3, x4, x5], a, w, b⟩ rfl
  simp only at *
  generalize bareS ⟨k, op, [x0, x1, x2, x3, x4, x5], a, w, b⟩ = bs at *
  generalize decide (_ = bs) = eqb at *
  generalize bareN k nl = bn at *
  obtain ⟨k', op', xs', a', w', b'⟩ := bs
  obtain ⟨y0, y1, y2, y3, y4, y5, rfl⟩ := six hbl
  simp only [spC_six] at *
  rw [wl_six] at hm
  generalize decide (MayC op [x0, x1, x2, x3, x4, x5]) = mc at *
  by_cases h1 : 1 ≤ k
  case' neg =>
    refine pure_fnK cxOk Tryz.func18 (fun _ => false) (fe18.q) (by kernel_rfl) (by dsimp only [Tryz.f18, go_sem, seval] <;> rfl) ?_
    dsimp only [Tryz.f18, frame0, List.zipIdx, List.map, Nat.reduceAdd]
    try simp only [List.getElem?_toArray, List.getElem?_cons_succ, List.getElem?_cons_zero, Option.bind_some]
    repeat' (first | (apply aL_boxI; (case hg => (simp (disch := omega) only [go_sem, seval, h1, decide_true, decide_false, eq_self_iff_true, not_true_eq_false, not_false_eq_true, Bool.not_true, Bool.not_false])); (case h => (simp (disch := omega) only [go_sem, seval, h1, decide_true, decide_false, eq_self_iff_true, not_true_eq_false, not_false_eq_true, Bool.not_true, Bool.not_false] <;> with_reducible rfl)); (case hf => (simp only [go_sem] <;> with_reducible rfl)); (case hs => (simp (disch := omega) only [go_sem, seval, h1, decide_true, decide_false, eq_self_iff_true, not_true_eq_false, not_false_eq_true, Bool.not_true, Bool.not_false]))) | refine aC_seq ?_ | refine aC_reg rfl ?_ | refine thenQ_normal ?_ | refine aL_nil ?_ | (apply aL_step; (· exact True.intro); (iterate 2 (· simp (disch := omega) only [go_sem, seval, h1, decide_true, decide_false, eq_self_iff_true, not_true_eq_false, not_false_eq_true, Bool.not_true, Bool.not_false] <;> with_reducible rfl)); (· simp only [go_sem] <;> with_reducible rfl)) | (refine aL_skip ?_ (by simp only [go_sem] <;> with_reducible rfl) ?_; (· simp (disch := omega) only [go_sem, seval, h1, decide_true, decide_false, eq_self_iff_true, not_true_eq_false, not_false_eq_true, Bool.not_true, Bool.not_false])) | fail)
    all_goals try (first | exact True.intro | exact not_false | omega | (simp (disch := omega) only [go_sem, seval] <;> omega))
    refine aC_regB (U := [(some 14, some 16)]) rfl [] ?_
    repeat' (first | refine aLB_nil ?_ | (apply aLB_step; (· exact True.intro); (· exact (by intro h; cases h)); (· rfl); (· simp (disch := omega) only [go_sem, seval, h1, decide_true, decide_false, eq_self_iff_true, not_true_eq_false, not_false_eq_true, Bool.not_true, Bool.not_false]); (· simp (disch := omega) only [go_sem, seval, h1, decide_true, decide_false, eq_self_iff_true, not_true_eq_false, not_false_eq_true, Bool.not_true, Bool.not_false] <;> with_reducible rfl); (· simp only [go_sem] <;> with_reducible rfl); (· (intro b hb; first | (cases hb; done) | (simp (disch := omega) only [loadBox, go_sem, seval] at hb; (try injection hb with hb); subst hb; simp)))) | (refine aLB_skip ?_ (by simp only [go_sem] <;> with_reducible rfl) ?_; (· simp (disch := omega) only [go_sem, seval, h1, decide_true, decide_false, eq_self_iff_true, not_true_eq_false, not_false_eq_true, Bool.not_true, Bool.not_false])) | fail)
    repeat' (first | refine aC_ret ?_ | refine thenQ_normal ?_ | fail)
    all_goals try (first | exact True.intro | exact not_false | omega | (simp (disch := omega) only [go_sem, seval] <;> omega))
    all_goals clear hb hsm hm hd
    all_goals try (simp (disch := omega) only [go_sem, seval])
    all_goals try simp
    all_goals try simp_all
    all_goals try (intros; omega)
  case' pos =>
    by_cases h2 : k ≤ 4
    case' neg =>
      refine pure_fnK cxOk Tryz.func18 (fun _ => false) (fe18.q) (by kernel_rfl) (by dsimp only [Tryz.f18, go_sem, seval] <;> rfl) ?_
      dsimp only [Tryz.f18, frame0, List.zipIdx, List.map, Nat.reduceAdd]
      try simp only [List.getElem?_toArray, List.getElem?_cons_succ, List.getElem?_cons_zero, Option.bind_some]
      repeat' (first | (apply aL_boxI; (case hg => (simp (disch := omega) only [go_sem, seval, h1, h2, decide_true, decide_false, eq_self_iff_true, not_true_eq_false, not_false_eq_true, Bool.not_true, Bool.not_false])); (case h => (simp (disch := omega) only [go_sem, seval, h1, h2, decide_true, decide_false, eq_self_iff_true, not_true_eq_false, not_false_eq_true, Bool.not_true, Bool.not_false] <;> with_reducible rfl)); (case hf => (simp only [go_sem] <;> with_reducible rfl)); (case hs => (simp (disch := omega) only [go_sem, seval, h1, h2, decide_true, decide_false, eq_self_iff_true, not_true_eq_false, not_false_eq_true, Bool.not_true, Bool.not_false]))) | refine aC_seq ?_ | refine aC_reg rfl ?_ | refine thenQ_normal ?_ | refine aL_nil ?_ | (apply aL_step; (· exact True.intro); (iterate 2 (· simp (disch := omega) only [go_sem, seval, h1, h2, decide_true, decide_false, eq_self_iff_true, not_true_eq_false, not_false_eq_true, Bool.not_true, Bool.not_false] <;> with_reducible rfl)); (· simp only [go_sem] <;> with_reducible rfl)) | fail)
      all_goals try (first | exact True.intro | exact not_false | omega | (simp (disch := omega) only [go_sem, seval] <;> omega))
      refine aC_regB (U := [(some 14, some 16)]) rfl [] ?_
      repeat' (first | refine aLB_nil ?_ | (apply aLB_step; (· exact True.intro); (· exact (by intro h; cases h)); (· rfl); (· simp (disch := omega) only [go_sem, seval, h1, h2, decide_true, decide_false, eq_self_iff_true, not_true_eq_false, not_false_eq_true, Bool.not_true, Bool.not_false]); (· simp (disch := omega) only [go_sem, seval, h1, h2, decide_true, decide_false, eq_self_iff_true, not_true_eq_false, not_false_eq_true, Bool.not_true, Bool.not_false] <;> with_reducible rfl); (· simp only [go_sem] <;> with_reducible rfl); (· (intro b hb; first | (cases hb; done) | (simp (disch := omega) only [loadBox, go_sem, seval] at hb; (try injection hb with hb); subst hb; simp)))) | (refine aLB_skip ?_ (by simp only [go_sem] <;> with_reducible rfl) ?_; (· simp (disch := omega) only [go_sem, seval, h1, h2, decide_true, decide_false, eq_self_iff_true, not_true_eq_false, not_false_eq_true, Bool.not_true, Bool.not_false])) | fail)
      repeat' (first | refine aC_ret ?_ | refine thenQ_normal ?_ | fail)
      all_goals try (first | exact True.intro | exact not_false | omega | (simp (disch := omega) only [go_sem, seval] <;> omega))
      all_goals clear hb hsm hm hd
      all_goals try (simp (disch := omega) only [go_sem, seval])
      all_goals try simp
      all_goals try simp_all
      all_goals try (intros; omega)
    case' pos =>
      cases eqb
      case' false =>
        refine pure_fnK cxOk Tryz.func18 (fun _ => false) (fe18.q) (by kernel_rfl) (by dsimp only [Tryz.f18, go_sem, seval] <;> rfl) ?_
        dsimp only [Tryz.f18, frame0, List.zipIdx, List.map, Nat.reduceAdd]
        try simp only [List.getElem?_toArray, List.getElem?_cons_succ, List.getElem?_cons_zero, Option.bind_some]
        repeat' (first | (apply aL_boxI; (case hg => (simp (disch := omega) only [go_sem, seval, h1, h2, decide_true, decide_false, eq_self_iff_true, not_true_eq_false, not_false_eq_true, Bool.not_true, Bool.not_false])); (case h => (simp (disch := omega) only [go_sem, seval, h1, h2, decide_true, decide_false, eq_self_iff_true, not_true_eq_false, not_false_eq_true, Bool.not_true, Bool.not_false] <;> with_reducible rfl)); (case hf => (simp only [go_sem] <;> with_reducible rfl)); (case hs => (simp (disch := omega) only [go_sem, seval, h1, h2, decide_true, decide_false, eq_self_iff_true, not_true_eq_false, not_false_eq_true, Bool.not_true, Bool.not_false]))) | refine aC_seq ?_ | refine aC_reg rfl ?_ | refine thenQ_normal ?_ | refine aL_nil ?_ | (apply aL_step; (· exact True.intro); (iterate 2 (· simp (disch := omega) only [go_sem, seval, h1, h2, decide_true, decide_false, eq_self_iff_true, not_true_eq_false, not_false_eq_true, Bool.not_true, Bool.not_false] <;> with_reducible rfl)); (· simp only [go_sem] <;> with_reducible rfl)) | fail)
        all_goals try (first | exact True.intro | exact not_false | omega | (simp (disch := omega) only [go_sem, seval] <;> omega))
        refine aC_regB (U := [(some 14, some 16)]) rfl [] ?_
        repeat' (first | refine aLB_nil ?_ | (apply aLB_step; (· exact True.intro); (· exact (by intro h; cases h)); (· rfl); (· simp (disch := omega) only [go_sem, seval, h1, h2, decide_true, decide_false, eq_self_iff_true, not_true_eq_false, not_false_eq_true, Bool.not_true, Bool.not_false]); (· simp (disch := omega) only [go_sem, seval, h1, h2, decide_true, decide_false, eq_self_iff_true, not_true_eq_false, not_false_eq_true, Bool.not_true, Bool.not_false] <;> with_reducible rfl); (· simp only [go_sem] <;> with_reducible rfl); (· (intro b hb; first | (cases hb; done) | (simp (disch := omega) only [loadBox, go_sem, seval] at hb; (try injection hb with hb); subst hb; simp)))) | (refine aLB_skip ?_ (by simp only [go_sem] <;> with_reducible rfl) ?_; (· simp (disch := omega) only [go_sem, seval, h1, h2, decide_true, decide_false, eq_self_iff_true, not_true_eq_false, not_false_eq_true, Bool.not_true, Bool.not_false])) | (apply aLB_pure cxG (hb); (case hg => (simp (disch := omega) only [go_sem, seval, h1, h2, decide_true, decide_false, eq_self_iff_true, not_true_eq_false, not_false_eq_true, Bool.not_true, Bool.not_false])); (case hx => (simp (disch := omega) only [go_sem, seval, h1, h2, decide_true, decide_false, eq_self_iff_true, not_true_eq_false, not_false_eq_true, Bool.not_true, Bool.not_false] <;> with_reducible rfl)); (case ha => (simp (disch := omega) only [go_sem, seval, h1, h2, decide_true, decide_false, eq_self_iff_true, not_true_eq_false, not_false_eq_true, Bool.not_true, Bool.not_false] <;> with_reducible rfl)); (case he => (simp only [go_sem] <;> with_reducible rfl)); (case hcl => (simp)); (case hf => (simp only [go_sem] <;> with_reducible rfl))) | (apply aLB_pure cxG (hsm); (case hg => (simp (disch := omega) only [go_sem, seval, h1, h2, decide_true, decide_false, eq_self_iff_true, not_true_eq_false, not_false_eq_true, Bool.not_true, Bool.not_false])); (case hx => (simp (disch := omega) only [go_sem, seval, h1, h2, decide_true, decide_false, eq_self_iff_true, not_true_eq_false, not_false_eq_true, Bool.not_true, Bool.not_false] <;> with_reducible rfl)); (case ha => (simp (disch := omega) only [go_sem, seval, h1, h2, decide_true, decide_false, eq_self_iff_true, not_true_eq_false, not_false_eq_true, Bool.not_true, Bool.not_false] <;> with_reducible rfl)); (case he => (simp only [go_sem] <;> with_reducible rfl)); (case hcl => (simp)); (case hf => (simp only [go_sem] <;> with_reducible rfl))) | fail)
        repeat' (first | refine aC_ret ?_ | refine thenQ_normal ?_ | fail)
        all_goals try (first | exact True.intro | exact not_false | omega | (simp (disch := omega) only [go_sem, seval] <;> omega))
        all_goals clear hb hsm hm hd
        all_goals try (simp (disch := omega) only [go_sem, seval])
        all_goals try simp
        all_goals try simp_all
        all_goals try (intros; omega)
      case' true =>
        by_cases h4 : (b.length : Int) ≤ 4096
        case' neg =>
          refine pure_fnK cxOk Tryz.func18 (fun _ => false) (fe18.q) (by kernel_rfl) (by dsimp only [Tryz.f18, go_sem, seval] <;> rfl) ?_
          dsimp only [Tryz.f18, frame0, List.zipIdx, List.map, Nat.reduceAdd]
          try simp only [List.getElem?_toArray, List.getElem?_cons_succ, List.getElem?_cons_zero, Option.bind_some]
          repeat' (first | (apply aL_boxI; (case hg => (simp (disch := omega) only [go_sem, seval, h1, h2, h4, decide_true, decide_false, eq_self_iff_true, not_true_eq_false, not_false_eq_true, Bool.not_true, Bool.not_false])); (case h => (simp (disch := omega) only [go_sem, seval, h1, h2, h4, decide_true, decide_false, eq_self_iff_true, not_true_eq_false, not_false_eq_true, Bool.not_true, Bool.not_false] <;> with_reducible rfl)); (case hf => (simp only [go_sem] <;> with_reducible rfl)); (case hs => (simp (disch := omega) only [go_sem, seval, h1, h2, h4, decide_true, decide_false, eq_self_iff_true, not_true_eq_false, not_false_eq_true, Bool.not_true, Bool.not_false]))) | refine aC_seq ?_ | refine aC_reg rfl ?_ | refine thenQ_normal ?_ | refine aL_nil ?_ | (apply aL_step; (· exact True.intro); (iterate 2 (· simp (disch := omega) only [go_sem, seval, h1, h2, h4, decide_true, decide_false, eq_self_iff_true, not_true_eq_false, not_false_eq_true, Bool.not_true, Bool.not_false] <;> with_reducible rfl)); (· simp only [go_sem] <;> with_reducible rfl)) | fail)
          all_goals try (first | exact True.intro | exact not_false | omega | (simp (disch := omega) only [go_sem, seval] <;> omega))
          refine aC_regB (U := [(some 14, some 16)]) rfl [] ?_
          repeat' (first | refine aLB_nil ?_ | (apply aLB_step; (· exact True.intro); (· exact (by intro h; cases h)); (· rfl); (· simp (disch := omega) only [go_sem, seval, h1, h2, h4, decide_true, decide_false, eq_self_iff_true, not_true_eq_false, not_false_eq_true, Bool.not_true, Bool.not_false]); (· simp (disch := omega) only [go_sem, seval, h1, h2, h4, decide_true, decide_false, eq_self_iff_true, not_true_eq_false, not_false_eq_true, Bool.not_true, Bool.not_false] <;> with_reducible rfl); (· simp only [go_sem] <;> with_reducible rfl); (· (intro b hb; first | (cases hb; done) | (simp (disch := omega) only [loadBox, go_sem, seval] at hb; (try injection hb with hb); subst hb; simp)))) | (refine aLB_skip ?_ (by simp only [go_sem] <;> with_reducible rfl) ?_; (· simp (disch := omega) only [go_sem, seval, h1, h2, h4, decide_true, decide_false, eq_self_iff_true, not_true_eq_false, not_false_eq_true, Bool.not_true, Bool.not_false])) | (apply aLB_pure cxG (hb); (case hg => (simp (disch := omega) only [go_sem, seval, h1, h2, h4, decide_true, decide_false, eq_self_iff_true, not_true_eq_false, not_false_eq_true, Bool.not_true, Bool.not_false])); (case hx => (simp (disch := omega) only [go_sem, seval, h1, h2, h4, decide_true, decide_false, eq_self_iff_true, not_true_eq_false, not_false_eq_true, Bool.not_true, Bool.not_false] <;> with_reducible rfl)); (case ha => (simp (disch := omega) only [go_sem, seval, h1, h2, h4, decide_true, decide_false, eq_self_iff_true, not_true_eq_false, not_false_eq_true, Bool.not_true, Bool.not_false] <;> with_reducible rfl)); (case he => (simp only [go_sem] <;> with_reducible rfl)); (case hcl => (simp)); (case hf => (simp only [go_sem] <;> with_reducible rfl))) | (apply aLB_pure cxG (hsm); (case hg => (simp (disch := omega) only [go_sem, seval, h1, h2, h4, decide_true, decide_false, eq_self_iff_true, not_true_eq_false, not_false_eq_true, Bool.not_true, Bool.not_false])); (case hx => (simp (disch := omega) only [go_sem, seval, h1, h2, h4, decide_true, decide_false, eq_self_iff_true, not_true_eq_false, not_false_eq_true, Bool.not_true, Bool.not_false] <;> with_reducible rfl)); (case ha => (simp (disch := omega) only [go_sem, seval, h1, h2, h4, decide_true, decide_false, eq_self_iff_true, not_true_eq_false, not_false_eq_true, Bool.not_true, Bool.not_false] <;> with_reducible rfl)); (case he => (simp only [go_sem] <;> with_reducible rfl)); (case hcl => (simp)); (case hf => (simp only [go_sem] <;> with_reducible rfl))) | fail)
          repeat' (first | refine aC_ret ?_ | refine thenQ_normal ?_ | fail)
          all_goals try (first | exact True.intro | exact not_false | omega | (simp (disch := omega) only [go_sem, seval] <;> omega))
          all_goals clear hb hsm hm hd
          all_goals try (simp (disch := omega) only [go_sem, seval])
          all_goals try simp
          all_goals try simp_all
          all_goals try (intros; omega)
        case' pos =>
          by_cases h5 : k = 1
          case' pos =>
            subst h5
            refine pure_fnK cxOk Tryz.func18 (fun _ => false) (fe18.q) (by kernel_rfl) (by dsimp only [Tryz.f18, go_sem, seval] <;> rfl) ?_
            dsimp only [Tryz.f18, frame0, List.zipIdx, List.map, Nat.reduceAdd]
            try simp only [List.getElem?_toArray, List.getElem?_cons_succ, List.getElem?_cons_zero, Option.bind_some]
            repeat' (first | (apply aL_boxI; (case hg => (simp (disch := omega) only [go_sem, seval, h4, decide_true, decide_false, eq_self_iff_true, not_true_eq_false, not_false_eq_true, Bool.not_true, Bool.not_false])); (case h => (simp (disch := omega) only [go_sem, seval, h4, decide_true, decide_false, eq_self_iff_true, not_true_eq_false, not_false_eq_true, Bool.not_true, Bool.not_false] <;> with_reducible rfl)); (case hf => (simp only [go_sem] <;> with_reducible rfl)); (case hs => (simp (disch := omega) only [go_sem, seval, h4, decide_true, decide_false, eq_self_iff_true, not_true_eq_false, not_false_eq_true, Bool.not_true, Bool.not_false]))) | refine aC_seq ?_ | refine aC_reg rfl ?_ | refine thenQ_normal ?_ | refine aL_nil ?_ | (apply aL_step; (· exact True.intro); (iterate 2 (· simp (disch := omega) only [go_sem, seval, h4, decide_true, decide_false, eq_self_iff_true, not_true_eq_false, not_false_eq_true, Bool.not_true, Bool.not_false] <;> with_reducible rfl)); (· simp only [go_sem] <;> with_reducible rfl)) | fail)
            all_goals try (first | exact True.intro | exact not_false | omega | (simp (disch := omega) only [go_sem, seval] <;> omega))
            refine aC_regB (U := [(some 14, some 16)]) rfl [] ?_
            repeat' (first | refine aLB_nil ?_ | (apply aLB_step; (· exact True.intro); (· exact (by intro h; cases h)); (· rfl); (· simp (disch := omega) only [go_sem, seval, h4, decide_true, decide_false, eq_self_iff_true, not_true_eq_false, not_false_eq_true, Bool.not_true, Bool.not_false]); (· simp (disch := omega) only [go_sem, seval, h4, decide_true, decide_false, eq_self_iff_true, not_true_eq_false, not_false_eq_true, Bool.not_true, Bool.not_false] <;> with_reducible rfl); (· simp only [go_sem] <;> with_reducible rfl); (· (intro b hb; first | (cases hb; done) | (simp (disch := omega) only [loadBox, go_sem, seval] at hb; (try injection hb with hb); subst hb; simp)))) | (apply aLB_pure cxG (hb); (case hg => (simp (disch := omega) only [go_sem, seval, h4, decide_true, decide_false, eq_self_iff_true, not_true_eq_false, not_false_eq_true, Bool.not_true, Bool.not_false])); (case hx => (simp (disch := omega) only [go_sem, seval, h4, decide_true, decide_false, eq_self_iff_true, not_true_eq_false, not_false_eq_true, Bool.not_true, Bool.not_false] <;> with_reducible rfl)); (case ha => (simp (disch := omega) only [go_sem, seval, h4, decide_true, decide_false, eq_self_iff_true, not_true_eq_false, not_false_eq_true, Bool.not_true, Bool.not_false] <;> with_reducible rfl)); (case he => (simp only [go_sem] <;> with_reducible rfl)); (case hcl => (simp)); (case hf => (simp only [go_sem] <;> with_reducible rfl))) | (apply aLB_pure cxG (hsm); (case hg => (simp (disch := omega) only [go_sem, seval, h4, decide_true, decide_false, eq_self_iff_true, not_true_eq_false, not_false_eq_true, Bool.not_true, Bool.not_false])); (case hx => (simp (disch := omega) only [go_sem, seval, h4, decide_true, decide_false, eq_self_iff_true, not_true_eq_false, not_false_eq_true, Bool.not_true, Bool.not_false] <;> with_reducible rfl)); (case ha => (simp (disch := omega) only [go_sem, seval, h4, decide_true, decide_false, eq_self_iff_true, not_true_eq_false, not_false_eq_true, Bool.not_true, Bool.not_false] <;> with_reducible rfl)); (case he => (simp only [go_sem] <;> with_reducible rfl)); (case hcl => (simp)); (case hf => (simp only [go_sem] <;> with_reducible rfl))) | (apply aLB_pure cxG (hm); (case hg => (simp (disch := omega) only [go_sem, seval, h4, decide_true, decide_false, eq_self_iff_true, not_true_eq_false, not_false_eq_true, Bool.not_true, Bool.not_false])); (case hx => (simp (disch := omega) only [go_sem, seval, h4, decide_true, decide_false, eq_self_iff_true, not_true_eq_false, not_false_eq_true, Bool.not_true, Bool.not_false] <;> with_reducible rfl)); (case ha => (simp (disch := omega) only [go_sem, seval, h4, decide_true, decide_false, eq_self_iff_true, not_true_eq_false, not_false_eq_true, Bool.not_true, Bool.not_false] <;> with_reducible rfl)); (case he => (simp only [go_sem] <;> with_reducible rfl)); (case hcl => (simp)); (case hf => (simp only [go_sem] <;> with_reducible rfl))) | fail)
            repeat' (first | refine aC_ret ?_ | refine thenQ_normal ?_ | fail)
            all_goals try (first | exact True.intro | exact not_false | omega | (simp (disch := omega) only [go_sem, seval] <;> omega))
            all_goals clear hb hsm hm hd
            all_goals try (simp (disch := omega) only [go_sem, seval])
            all_goals try simp
            all_goals try simp_all
            all_goals try (intros; omega)
          case' neg =>
            refine pure_fnK cxOk Tryz.func18 (fun _ => false) (fe18.q) (by kernel_rfl) (by dsimp only [Tryz.f18, go_sem, seval] <;> rfl) ?_
            dsimp only [Tryz.f18, frame0, List.zipIdx, List.map, Nat.reduceAdd]
            try simp only [List.getElem?_toArray, List.getElem?_cons_succ, List.getElem?_cons_zero, Option.bind_some]
            repeat' (first | (apply aL_boxI; (case hg => (simp (disch := omega) only [go_sem, seval, h1, h2, h4, h5, decide_true, decide_false, eq_self_iff_true, not_true_eq_false, not_false_eq_true, Bool.not_true, Bool.not_false])); (case h => (simp (disch := omega) only [go_sem, seval, h1, h2, h4, h5, decide_true, decide_false, eq_self_iff_true, not_true_eq_false, not_false_eq_true, Bool.not_true, Bool.not_false] <;> with_reducible rfl)); (case hf => (simp only [go_sem] <;> with_reducible rfl)); (case hs => (simp (disch := omega) only [go_sem, seval, h1, h2, h4, h5, decide_true, decide_false, eq_self_iff_true, not_true_eq_false, not_false_eq_true, Bool.not_true, Bool.not_false]))) | refine aC_seq ?_ | refine aC_reg rfl ?_ | refine thenQ_normal ?_ | refine aL_nil ?_ | (apply aL_step; (· exact True.intro); (iterate 2 (· simp (disch := omega) only [go_sem, seval, h1, h2, h4, h5, decide_true, decide_false, eq_self_iff_true, not_true_eq_false, not_false_eq_true, Bool.not_true, Bool.not_false] <;> with_reducible rfl)); (· simp only [go_sem] <;> with_reducible rfl)) | fail)
            all_goals try (first | exact True.intro | exact not_false | omega | (simp (disch := omega) only [go_sem, seval] <;> omega))
            refine aC_regB (U := [(some 14, some 16)]) rfl [] ?_
            repeat' (first | refine aLB_nil ?_ | (apply aLB_step; (· exact True.intro); (· exact (by intro h; cases h)); (· rfl); (· simp (disch := omega) only [go_sem, seval, h1, h2, h4, h5, decide_true, decide_false, eq_self_iff_true, not_true_eq_false, not_false_eq_true, Bool.not_true, Bool.not_false]); (· simp (disch := omega) only [go_sem, seval, h1, h2, h4, h5, decide_true, decide_false, eq_self_iff_true, not_true_eq_false, not_false_eq_true, Bool.not_true, Bool.not_false] <;> with_reducible rfl); (· simp only [go_sem] <;> with_reducible rfl); (· (intro b hb; first | (cases hb; done) | (simp (disch := omega) only [loadBox, go_sem, seval] at hb; (try injection hb with hb); subst hb; simp)))) | (refine aLB_skip ?_ (by simp only [go_sem] <;> with_reducible rfl) ?_; (· simp (disch := omega) only [go_sem, seval, h1, h2, h4, h5, decide_true, decide_false, eq_self_iff_true, not_true_eq_false, not_false_eq_true, Bool.not_true, Bool.not_false])) | (apply aLB_pure cxG (hb); (case hg => (simp (disch := omega) only [go_sem, seval, h1, h2, h4, h5, decide_true, decide_false, eq_self_iff_true, not_true_eq_false, not_false_eq_true, Bool.not_true, Bool.not_false])); (case hx => (simp (disch := omega) only [go_sem, seval, h1, h2, h4, h5, decide_true, decide_false, eq_self_iff_true, not_true_eq_false, not_false_eq_true, Bool.not_true, Bool.not_false] <;> with_reducible rfl)); (case ha => (simp (disch := omega) only [go_sem, seval, h1, h2, h4, h5, decide_true, decide_false, eq_self_iff_true, not_true_eq_false, not_false_eq_true, Bool.not_true, Bool.not_false] <;> with_reducible rfl)); (case he => (simp only [go_sem] <;> with_reducible rfl)); (case hcl => (simp)); (case hf => (simp only [go_sem] <;> with_reducible rfl))) | (apply aLB_pure cxG (hsm); (case hg => (simp (disch := omega) only [go_sem, seval, h1, h2, h4, h5, decide_true, decide_false, eq_self_iff_true, not_true_eq_false, not_false_eq_true, Bool.not_true, Bool.not_false])); (case hx => (simp (disch := omega) only [go_sem, seval, h1, h2, h4, h5, decide_true, decide_false, eq_self_iff_true, not_true_eq_false, not_false_eq_true, Bool.not_true, Bool.not_false] <;> with_reducible rfl)); (case ha => (simp (disch := omega) only [go_sem, seval, h1, h2, h4, h5, decide_true, decide_false, eq_self_iff_true, not_true_eq_false, not_false_eq_true, Bool.not_true, Bool.not_false] <;> with_reducible rfl)); (case he => (simp only [go_sem] <;> with_reducible rfl)); (case hcl => (simp)); (case hf => (simp only [go_sem] <;> with_reducible rfl))) | fail)
            repeat' (first | refine aC_ret ?_ | refine thenQ_normal ?_ | fail)
            all_goals try (first | exact True.intro | exact not_false | omega | (simp (disch := omega) only [go_sem, seval] <;> omega))
            all_goals clear hb hsm hm hd
            all_goals try (simp (disch := omega) only [go_sem, seval])
            all_goals try simp
            all_goals try simp_all
            all_goals try (intros; omega)
end
end Go.Am
end
section
namespace Go.Am
open Go Go.Proofs
set_option maxHeartbeats 8000000
set_option maxRecDepth 100000
section
attribute [local irreducible] aC aL thenQ blockQ scopeQ ALoop AWp
theorem ref_MayStep (s : Sp) (hs : s.xs.length = 6) (nl : Bool) : APure cx 23 [.agg (spC s nl .any)] (.bool (decide (MayS s))) := by
  have hm := ref_May s.op s.xs hs
  obtain ⟨k, op, xs, a, w, b⟩ := s
  obtain ⟨x0, x1, x2, x3, x4, x5, rfl⟩ := six hs
  simp only [spC_six] at *
  have hd : decide (MayS ⟨k, op, [x0, x1, x2, x3, x4, x5], a, w, b⟩) = ((decide (k = 1) && decide (MayC op [x0, x1, x2, x3, x4, x5]) && decide (a = 0) && decide (w = 0) && decide (b = [])) ||
      ((decide (op = 0) && decide (x0 = 0) && decide (x1 = 0) && decide (x2 = 0) && decide (x3 = 0) && decide (x4 = 0) && decide (x5 = 0)) && ((decide (k = 2) && decide (w = 0) && decide (b = [])) || (decide (k = 3) && decide (b = [])) || (decide (k = 4) && decide (a = 0) && decide (w = 0) && decide (b.length ≤ 4096))))) := by
    rw [Bool.eq_iff_iff]
    simp only [Bool.and_eq_true, Bool.or_eq_true, decide_eq_true_eq, MayS, List.cons.injEq, and_true, and_assoc, or_assoc]
  rw [hd]
  clear hd
  rw [wl_six] at hm
  generalize decide (MayC op [x0, x1, x2, x3, x4, x5]) = mc at *
  have hzz : ([AVal.int .i64 op, .int .u64 (x0 : Nat), .int .u64 (x1 : Nat), .int .u64 (x2 : Nat), .int .u64 (x3 : Nat), .int .u64 (x4 : Nat), .int .u64 (x5 : Nat)] = [AVal.int .i64 0, .int .u64 0, .int .u64 0, .int .u64 0, .int .u64 0, .int .u64 0, .int .u64 0]) =
      ((decide (op = 0) && decide (x0 = 0) && decide (x1 = 0) && decide (x2 = 0) && decide (x3 = 0) && decide (x4 = 0) && decide (x5 = 0)) = true) := by
    apply propext
    simp only [List.cons.injEq, AVal.int.injEq, true_and, and_true, Bool.and_eq_true, decide_eq_true_eq, and_assoc]
    omega
  generalize (decide (op = 0) && decide (x0 = 0) && decide (x1 = 0) && decide (x2 = 0) && decide (x3 = 0) && decide (x4 = 0) && decide (x5 = 0)) = z at *
  by_cases h1 : k = 1
  case' pos => subst h1
  case' neg =>
    by_cases h2 : k = 2
    case' pos => subst h2
    case' neg =>
      by_cases h3 : k = 3
      case' pos => subst h3
      case' neg =>
        by_cases h4 : k = 4
        case' pos => subst h4
  all_goals cases mc
  all_goals cases z
  all_goals simp only [Bool.false_eq_true] at hzz
  all_goals
  refine pure_fnK cxOk Tryz.func23 (fun _ => false) (fe23.q) (by kernel_rfl) (by dsimp only [Tryz.f23, go_sem, seval] <;> rfl) ?_
  dsimp only [Tryz.f23, frame0, List.zipIdx, List.map, Nat.reduceAdd]
  try simp only [List.getElem?_toArray, List.getElem?_cons_succ, List.getElem?_cons_zero, Option.bind_some]
  repeat' (first | (apply aL_boxI; (case hg => (simp (disch := omega) only [go_sem, seval, hzz, eq_self_iff_true, decide_true, decide_false])); (case h => (simp (disch := omega) only [go_sem, seval, hzz, eq_self_iff_true, decide_true, decide_false] <;> with_reducible rfl)); (case hf => (simp only [go_sem] <;> with_reducible rfl)); (case hs => (simp (disch := omega) only [go_sem, seval, hzz, eq_self_iff_true, decide_true, decide_false]))) | refine aC_seq ?_ | refine aC_reg rfl ?_ | refine aC_block ?_ | refine aC_skip ?_ | refine aC_ret ?_ | refine thenQ_normal ?_ | refine blockQ_normal ?_ | refine thenQ_ret ?_ | refine blockQ_ret ?_ | refine aL_nil ?_ | (apply aL_step; (· exact True.intro); (iterate 2 (· simp (disch := omega) only [go_sem, seval, hzz, eq_self_iff_true, decide_true, decide_false] <;> with_reducible rfl)); (· simp only [go_sem] <;> with_reducible rfl)) | (refine aL_skip ?_ (by simp only [go_sem] <;> with_reducible rfl) ?_; (· simp (disch := omega) only [go_sem, seval, hzz, eq_self_iff_true, decide_true, decide_false])) | (apply aL_guardP; (· simp (disch := omega) only [go_sem, seval, hzz, eq_self_iff_true, decide_true, decide_false] <;> with_reducible rfl); all_goals (intro h; first | (exfalso; omega) | (simp only [h, decide_true, decide_false, not_true, not_false_iff]))) | (refine aC_condT ?_ ?_; (· simp (disch := omega) only [go_sem, seval, hzz, eq_self_iff_true, decide_true, decide_false])) | (refine aC_condF ?_ ?_; (· simp (disch := omega) only [go_sem, seval, hzz, eq_self_iff_true, decide_true, decide_false])) | (refine aC_condP (by simp (disch := omega) only [go_sem, seval, hzz, eq_self_iff_true, decide_true, decide_false] <;> with_reducible rfl) ?_ ?_ <;> (intro h; first | (exfalso; omega) | skip)) | (apply aL_pK cxG (hm); (iterate 2 (· simp (disch := omega) only [go_sem, seval, hzz, eq_self_iff_true, decide_true, decide_false] <;> with_reducible rfl)); (· simp only [go_sem] <;> with_reducible rfl); (· simp)) | fail)
  all_goals try (first | exact True.intro | exact not_false | omega | (simp (disch := omega) only [go_sem, seval] <;> omega))
  all_goals try (exact ⟨by kernel_rfl, by kernel_rfl⟩)
  all_goals try (simp (disch := omega) only [go_sem, seval])
  all_goals try simp
  all_goals try simp_all [Int.ofNat_inj]
  all_goals try (intros; omega)
end
end Go.Am
end
