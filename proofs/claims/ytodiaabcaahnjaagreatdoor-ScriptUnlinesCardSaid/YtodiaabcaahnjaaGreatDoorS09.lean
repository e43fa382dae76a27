/- Lines of steps: the walk of the document's Unline. -/
import Derived.Test.YtodiaabcaahnjaaGreatDoorS07
set_option linter.unusedVariables false
set_option linter.unusedSimpArgs false
section
namespace Go.Am
open Go Go.Proofs
set_option maxHeartbeats 8000000
set_option maxRecDepth 100000
section
attribute [local irreducible] aC aL thenQ blockQ scopeQ ALoop AWp
theorem ref_unline_cand (s : List UInt8) (hs : s.length ≤ 9000) (hno : ∀ op xs, ¬ IsCall s op xs) (r : AVal)
    (hr : r = bif decide (MayS (rc2 (pt s 1))) && decide (lineS (rc2 (pt s 1)) = s) then .tup [.agg (spC (rc2 (pt s 1)) true .any), .bool true]
      else bif decide (MayS (rc3 (pt s 1) (pt s 2))) && decide (lineS (rc3 (pt s 1) (pt s 2)) = s) then .tup [.agg (spC (rc3 (pt s 1) (pt s 2)) true .any), .bool true]
      else bif goodp (pt s 1) && decide (MayS (rc4 (pt s 1))) && decide (lineS (rc4 (pt s 1)) = s) then .tup [.agg (spC (rc4 (pt s 1)) (unpre (pt s 1)).isEmpty .any), .bool true]
      else .tup [.agg (spC Sp.zero true .any), .bool false]) :
    APure cx 10 [.str s] r := by
  have hu := ref_Untext s (by omega) _ (.inr ⟨hno, rfl⟩)
  have hc := ref_cutG s (by omega)
  obtain ⟨k2, k3, k4⟩ := rc_ok s hs
  have l1 := pt_len s 1
  have l2 := pt_len s 2
  have n1 := ref_number25 (pt s 1) (by omega)
  have n2 := ref_number25 (pt s 2) (by omega)
  have ux := ref_unhex (pt s 1) (by omega)
  have m2 := ref_MayStep (rc2 (pt s 1)) k2.x6 true
  have m3 := ref_MayStep (rc3 (pt s 1) (pt s 2)) k3.x6 true
  have m4 := ref_MayStep (rc4 (pt s 1)) k4.x6 (unpre (pt s 1)).isEmpty
  have i2 := ref_Line (rc2 (pt s 1)) k2 (fun h => absurd h (show (2 : Int) ≠ 1 by decide)) true
  have i3 := ref_Line (rc3 (pt s 1) (pt s 2)) k3 (fun h => absurd h (show (3 : Int) ≠ 1 by decide)) true
  have i4 := ref_Line (rc4 (pt s 1)) k4 (fun h => absurd h (show (4 : Int) ≠ 1 by decide)) (unpre (pt s 1)).isEmpty
  obtain ⟨w0, wr, hw, hwl⟩ := parts_len s [32] (by decide)
  have hLn : 1 ≤ ((parts s [32]).map AVal.str).length ∧ ((parts s [32]).map AVal.str).length ≤ s.length + 1 := by rw [hw]; simp; omega
  have g1 : ((parts s [32]).map AVal.str ++ [AVal.str [], AVal.str []]).getD 1 .any = .str (pt s 1) := by
    have : pt s 1 = ((w0 :: wr) ++ [[], []] : List (List UInt8)).getD 1 [] := by unfold pt; rw [hw]
    rw [this, hw]
    cases wr <;> rfl
  have g2 : ((parts s [32]).map AVal.str ++ [AVal.str [], AVal.str []]).getD 2 .any = .str (pt s 2) := by
    have : pt s 2 = ((w0 :: wr) ++ [[], []] : List (List UInt8)).getD 2 [] := by unfold pt; rw [hw]
    rw [this, hw]
    rcases wr with _ | ⟨a, _ | ⟨b, wr⟩⟩ <;> rfl
  clear hw hwl hno k2 k3 k4
  generalize hLL : (parts s [32]).map AVal.str = LL at *
  generalize decide (MayS (rc2 (pt s 1))) = q2 at *
  generalize decide (MayS (rc3 (pt s 1) (pt s 2))) = q3 at *
  generalize decide (MayS (rc4 (pt s 1))) = q4 at *
  generalize lineS (rc2 (pt s 1)) = X2 at *
  generalize lineS (rc3 (pt s 1) (pt s 2)) = X3 at *
  generalize lineS (rc4 (pt s 1)) = X4 at *
  unfold rc2 at *
  unfold rc3 at *
  unfold rc4 at *
  generalize pt s 1 = p1 at *
  generalize pt s 2 = p2 at *
  generalize rnum (p1.take 20) = a at *
  generalize rnum (p2.take 20) = b at *
  have hul := unpre_le p1
  generalize unpre p1 = u at *
  generalize goodp p1 = gp at *
  simp only [Sp.zero, Z6, spC_six, bl_nil, nz] at *
  subst hr
  cases gp
  · simp only [Bool.false_eq_true, if_false, Bool.false_and, cond_false] at *
    refine pure_fn cxOk Tryz.func10 (by kernel_rfl) (fun _ => false) (fe10.q) (by kernel_rfl) (Nat.le_of_ble_eq_true (by kernel_rfl)) ?_
    dsimp only [LB, Tryz.f10, lite, nextOf, Option.isNone, Bool.not_true, Bool.not_false, Bool.and_true, Bool.true_and, Bool.false_and, Bool.and_self, Bool.false_eq_true, if_false, if_true, ↓reduceIte, liteO, List.map, Option.map, frame0, List.zipIdx, Nat.reduceAdd]
    try simp only [List.getElem?_toArray, List.getElem?_cons_succ, List.getElem?_cons_zero, Option.bind_some]
    repeat' (first | refine aC_seq ?_ | refine aC_reg rfl ?_ | refine aC_skip ?_ | refine thenQ_normal ?_ | refine aL_nil ?_ | (apply aL_step; (· exact True.intro); (· simp (disch := first | omega | (simp only [go_sem]; omega)) only [go_sem, get_miss, seval, reduceCtorEq, g1, g2]); (· simp (disch := first | omega | (simp only [go_sem]; omega)) only [go_sem, get_miss, seval, reduceCtorEq, g1, g2] <;> with_reducible rfl); (· simp only [go_sem] <;> with_reducible rfl)) | (refine aC_condF ?_ ?_; (· simp (disch := first | omega | (simp only [go_sem]; omega)) only [go_sem, get_miss, seval, reduceCtorEq, g1, g2])) | (apply aL_pure cxG (hu); (case hg => (simp (disch := first | omega | (simp only [go_sem]; omega)) only [go_sem, get_miss, seval, reduceCtorEq, g1, g2])); (case hx => (simp (disch := first | omega | (simp only [go_sem]; omega)) only [go_sem, get_miss, seval, reduceCtorEq, g1, g2] <;> with_reducible rfl)); (case ha => (simp (disch := first | omega | (simp only [go_sem]; omega)) only [go_sem, get_miss, seval, reduceCtorEq, g1, g2] <;> with_reducible rfl)); (case he => (simp only [go_sem] <;> with_reducible rfl)); (case hcl => (simp)); (case hf => (simp only [go_sem] <;> with_reducible rfl))) | (apply aL_acall ((hc _)); (case hg => (simp (disch := first | omega | (simp only [go_sem]; omega)) only [go_sem, get_miss, seval, reduceCtorEq, g1, g2])); (case hx => (simp (disch := first | omega | (simp only [go_sem]; omega)) only [go_sem, get_miss, seval, reduceCtorEq, g1, g2] <;> with_reducible rfl)); (case ha => (simp (disch := first | omega | (simp only [go_sem]; omega)) only [go_sem, get_miss, seval, reduceCtorEq, g1, g2] <;> with_reducible rfl)); (case he => (with_reducible rfl)); (case hp => (rfl)); (case hf => (simp only [go_sem] <;> with_reducible rfl))) | (apply aL_pure cxG (ux); (case hg => (simp (disch := first | omega | (simp only [go_sem]; omega)) only [go_sem, get_miss, seval, reduceCtorEq, g1, g2])); (case hx => (simp (disch := first | omega | (simp only [go_sem]; omega)) only [go_sem, get_miss, seval, reduceCtorEq, g1, g2] <;> with_reducible rfl)); (case ha => (simp (disch := first | omega | (simp only [go_sem]; omega)) only [go_sem, get_miss, seval, reduceCtorEq, g1, g2] <;> with_reducible rfl)); (case he => (simp only [go_sem] <;> with_reducible rfl)); (case hcl => (simp)); (case hf => (simp only [go_sem] <;> with_reducible rfl))) | fail)
    all_goals try (first | exact True.intro | exact not_false | omega)
    all_goals try (simp (disch := first | omega | (simp only [go_sem]; omega)) only [go_sem, get_miss, seval, reduceCtorEq] <;> first | exact True.intro | omega)
    refine aC_regB (U := [(some 37, some 33), (some 41, some 33), (some 41, some 38)]) rfl [] ?_
    repeat' (first | refine aLB_nil ?_ | (apply aLB_step; (· exact True.intro); (· exact (by intro h; cases h)); (· rfl); (· simp (disch := first | omega | (simp only [go_sem]; omega)) only [go_sem, get_miss, seval, reduceCtorEq, g1, g2]); (· simp (disch := first | omega | (simp only [go_sem]; omega)) only [go_sem, get_miss, seval, reduceCtorEq, g1, g2] <;> with_reducible rfl); (· simp only [go_sem] <;> with_reducible rfl); (· (intro b hb; first | (cases hb; done) | (simp (disch := first | omega | (simp only [go_sem]; omega)) only [loadBox, go_sem, get_miss, seval, reduceCtorEq] at hb; (try injection hb with hb); subst hb; simp)))) | (apply aLB_pure cxG (n1); (case hg => (simp (disch := first | omega | (simp only [go_sem]; omega)) only [go_sem, get_miss, seval, reduceCtorEq, g1, g2])); (case hx => (simp (disch := first | omega | (simp only [go_sem]; omega)) only [go_sem, get_miss, seval, reduceCtorEq, g1, g2] <;> with_reducible rfl)); (case ha => (simp (disch := first | omega | (simp only [go_sem]; omega)) only [go_sem, get_miss, seval, reduceCtorEq, g1, g2] <;> with_reducible rfl)); (case he => (simp only [go_sem] <;> with_reducible rfl)); (case hcl => (simp)); (case hf => (simp only [go_sem] <;> with_reducible rfl))) | (apply aLB_pure cxG (n2); (case hg => (simp (disch := first | omega | (simp only [go_sem]; omega)) only [go_sem, get_miss, seval, reduceCtorEq, g1, g2])); (case hx => (simp (disch := first | omega | (simp only [go_sem]; omega)) only [go_sem, get_miss, seval, reduceCtorEq, g1, g2] <;> with_reducible rfl)); (case ha => (simp (disch := first | omega | (simp only [go_sem]; omega)) only [go_sem, get_miss, seval, reduceCtorEq, g1, g2] <;> with_reducible rfl)); (case he => (simp only [go_sem] <;> with_reducible rfl)); (case hcl => (simp)); (case hf => (simp only [go_sem] <;> with_reducible rfl))) | fail)
    repeat' (first | refine aC_seq ?_ | refine aC_reg rfl ?_ | refine aC_block ?_ | refine aC_skip ?_ | refine aC_loop ?_ | refine thenQ_normal ?_ | refine aL_nil ?_ | (apply aL_step; (· exact True.intro); (· simp (disch := first | omega | (simp only [go_sem]; omega)) only [go_sem, get_miss, seval, reduceCtorEq]); (· simp (disch := first | omega | (simp only [go_sem]; omega)) only [go_sem, get_miss, seval, reduceCtorEq] <;> with_reducible rfl); (· simp only [go_sem] <;> with_reducible rfl)) | (refine aC_condF ?_ ?_; (· simp (disch := first | omega | (simp only [go_sem]; omega)) only [go_sem, get_miss, seval, reduceCtorEq])) | fail)
    all_goals try (first | exact True.intro | exact not_false | omega)
    all_goals try (simp (disch := first | omega | (simp only [go_sem]; omega)) only [go_sem, get_miss, seval, reduceCtorEq] <;> first | exact True.intro | omega)
    all_goals try (intro _ _ h; exact h.elim)
    refine loop_rule (cxOk.wp _ _) (σ := Nat) (fun k => [(10, .int .i64 k), (9, .sl 11 false [.agg [.int .i64 2, .int .i64 0, .int .u64 0, .int .u64 0, .int .u64 0, .int .u64 0, .int .u64 0, .int .u64 0, .int .u64 (a : Nat), .int .u64 0, .sl 1 true [] .any], .agg [.int .i64 3, .int .i64 0, .int .u64 0, .int .u64 0, .int .u64 0, .int .u64 0, .int .u64 0, .int .u64 0, .int .u64 (a : Nat), .int .u64 (b : Nat), .sl 1 true [] .any]] .full), (2, .ptr 0 0), (0, .str s)])
      (fun _ => _) (fun k => 2 - k) (fun k => k ≤ 2 ∧ (1 ≤ k → (q2 && decide (X2 = s)) = false) ∧ (2 ≤ k → (q3 && decide (X3 = s)) = false)) 0 (GStep.refl _ _) ⟨⟨Nat.zero_le _, fun h => absurd h (by decide), fun h => absurd h (by decide)⟩, Sub.of_all (by simp [Fr.get]), rfl⟩ ?_
    rintro k ⟨hk, h1, h2⟩
    have hkk : k = 0 ∨ k = 1 ∨ k = 2 := by omega
    rcases hkk with rfl | rfl | rfl
    · clear h1 h2
      cases q2
      all_goals by_cases eX : X2 = s
      all_goals
      repeat' (first | refine aC_seq ?_ | refine aC_reg rfl ?_ | refine aC_block ?_ | refine aC_skip ?_ | refine aC_ret ?_ | refine thenQ_normal ?_ | refine blockQ_normal ?_ | refine thenQ_ret ?_ | refine blockQ_ret ?_ | refine aL_nil ?_ | (apply aL_step; (· exact True.intro); (· simp (disch := first | omega | (simp only [go_sem]; omega)) only [go_sem, get_miss, seval, reduceCtorEq, eX, eq_self_iff_true, decide_true, decide_false, not_true_eq_false, not_false_eq_true]); (· simp (disch := first | omega | (simp only [go_sem]; omega)) only [go_sem, get_miss, seval, reduceCtorEq, eX, eq_self_iff_true, decide_true, decide_false, not_true_eq_false, not_false_eq_true] <;> with_reducible rfl); (· simp only [go_sem] <;> with_reducible rfl)) | (refine aL_skip ?_ (by simp only [go_sem] <;> with_reducible rfl) ?_; (· simp (disch := first | omega | (simp only [go_sem]; omega)) only [go_sem, get_miss, seval, reduceCtorEq, eX, eq_self_iff_true, decide_true, decide_false, not_true_eq_false, not_false_eq_true])) | (refine aC_condT ?_ ?_; (· simp (disch := first | omega | (simp only [go_sem]; omega)) only [go_sem, get_miss, seval, reduceCtorEq, eX, eq_self_iff_true, decide_true, decide_false, not_true_eq_false, not_false_eq_true])) | (refine aC_condF ?_ ?_; (· simp (disch := first | omega | (simp only [go_sem]; omega)) only [go_sem, get_miss, seval, reduceCtorEq, eX, eq_self_iff_true, decide_true, decide_false, not_true_eq_false, not_false_eq_true])) | (apply aL_pure cxG (m2); (case hg => (simp (disch := first | omega | (simp only [go_sem]; omega)) only [go_sem, get_miss, seval, reduceCtorEq, eX, eq_self_iff_true, decide_true, decide_false, not_true_eq_false, not_false_eq_true])); (case hx => (simp (disch := first | omega | (simp only [go_sem]; omega)) only [go_sem, get_miss, seval, reduceCtorEq, eX, eq_self_iff_true, decide_true, decide_false, not_true_eq_false, not_false_eq_true] <;> with_reducible rfl)); (case ha => (simp (disch := first | omega | (simp only [go_sem]; omega)) only [go_sem, get_miss, seval, reduceCtorEq, eX, eq_self_iff_true, decide_true, decide_false, not_true_eq_false, not_false_eq_true] <;> with_reducible rfl)); (case he => (simp only [go_sem] <;> with_reducible rfl)); (case hcl => (simp)); (case hf => (simp only [go_sem] <;> with_reducible rfl))) | (apply aL_pure cxG (i2); (case hg => (simp (disch := first | omega | (simp only [go_sem]; omega)) only [go_sem, get_miss, seval, reduceCtorEq, eX, eq_self_iff_true, decide_true, decide_false, not_true_eq_false, not_false_eq_true])); (case hx => (simp (disch := first | omega | (simp only [go_sem]; omega)) only [go_sem, get_miss, seval, reduceCtorEq, eX, eq_self_iff_true, decide_true, decide_false, not_true_eq_false, not_false_eq_true] <;> with_reducible rfl)); (case ha => (simp (disch := first | omega | (simp only [go_sem]; omega)) only [go_sem, get_miss, seval, reduceCtorEq, eX, eq_self_iff_true, decide_true, decide_false, not_true_eq_false, not_false_eq_true] <;> with_reducible rfl)); (case he => (simp only [go_sem] <;> with_reducible rfl)); (case hcl => (simp)); (case hf => (simp only [go_sem] <;> with_reducible rfl))) | fail)
      all_goals try (first | exact True.intro | exact not_false | omega)
      all_goals try (simp (disch := first | omega | (simp only [go_sem]; omega)) only [go_sem, get_miss, seval, reduceCtorEq] <;> first | exact True.intro | omega)
      all_goals clear hu hc n1 n2 m2 m3 i2 i3 ux m4 i4
      all_goals first
        | exact ⟨1, ⟨by omega, by intro _; first | (exfalso; omega) | assumption | (simp [eX]; done), by intro _; first | (exfalso; omega) | assumption | (simp [eX]; done)⟩, Sub.of_all (by simp [Fr.get]), rfl, by omega⟩
        | (simp (disch := first | omega | (simp only [go_sem]; omega)) only [go_sem, get_miss, seval, reduceCtorEq]; done)
        | (simp (disch := first | omega | (simp only [go_sem]; omega)) only [go_sem, get_miss, seval, reduceCtorEq]; simp [eX]; done)
        | (simp [eX]; done)
    · have e1 := h1 (by omega); clear h1 h2
      cases q3
      all_goals by_cases eX : X3 = s
      all_goals
      repeat' (first | refine aC_seq ?_ | refine aC_reg rfl ?_ | refine aC_block ?_ | refine aC_skip ?_ | refine aC_ret ?_ | refine thenQ_normal ?_ | refine blockQ_normal ?_ | refine thenQ_ret ?_ | refine blockQ_ret ?_ | refine aL_nil ?_ | (apply aL_step; (· exact True.intro); (· simp (disch := first | omega | (simp only [go_sem]; omega)) only [go_sem, get_miss, seval, reduceCtorEq, eX, eq_self_iff_true, decide_true, decide_false, not_true_eq_false, not_false_eq_true]); (· simp (disch := first | omega | (simp only [go_sem]; omega)) only [go_sem, get_miss, seval, reduceCtorEq, eX, eq_self_iff_true, decide_true, decide_false, not_true_eq_false, not_false_eq_true] <;> with_reducible rfl); (· simp only [go_sem] <;> with_reducible rfl)) | (refine aL_skip ?_ (by simp only [go_sem] <;> with_reducible rfl) ?_; (· simp (disch := first | omega | (simp only [go_sem]; omega)) only [go_sem, get_miss, seval, reduceCtorEq, eX, eq_self_iff_true, decide_true, decide_false, not_true_eq_false, not_false_eq_true])) | (refine aC_condT ?_ ?_; (· simp (disch := first | omega | (simp only [go_sem]; omega)) only [go_sem, get_miss, seval, reduceCtorEq, eX, eq_self_iff_true, decide_true, decide_false, not_true_eq_false, not_false_eq_true])) | (refine aC_condF ?_ ?_; (· simp (disch := first | omega | (simp only [go_sem]; omega)) only [go_sem, get_miss, seval, reduceCtorEq, eX, eq_self_iff_true, decide_true, decide_false, not_true_eq_false, not_false_eq_true])) | (apply aL_pure cxG (m3); (case hg => (simp (disch := first | omega | (simp only [go_sem]; omega)) only [go_sem, get_miss, seval, reduceCtorEq, eX, eq_self_iff_true, decide_true, decide_false, not_true_eq_false, not_false_eq_true])); (case hx => (simp (disch := first | omega | (simp only [go_sem]; omega)) only [go_sem, get_miss, seval, reduceCtorEq, eX, eq_self_iff_true, decide_true, decide_false, not_true_eq_false, not_false_eq_true] <;> with_reducible rfl)); (case ha => (simp (disch := first | omega | (simp only [go_sem]; omega)) only [go_sem, get_miss, seval, reduceCtorEq, eX, eq_self_iff_true, decide_true, decide_false, not_true_eq_false, not_false_eq_true] <;> with_reducible rfl)); (case he => (simp only [go_sem] <;> with_reducible rfl)); (case hcl => (simp)); (case hf => (simp only [go_sem] <;> with_reducible rfl))) | (apply aL_pure cxG (i3); (case hg => (simp (disch := first | omega | (simp only [go_sem]; omega)) only [go_sem, get_miss, seval, reduceCtorEq, eX, eq_self_iff_true, decide_true, decide_false, not_true_eq_false, not_false_eq_true])); (case hx => (simp (disch := first | omega | (simp only [go_sem]; omega)) only [go_sem, get_miss, seval, reduceCtorEq, eX, eq_self_iff_true, decide_true, decide_false, not_true_eq_false, not_false_eq_true] <;> with_reducible rfl)); (case ha => (simp (disch := first | omega | (simp only [go_sem]; omega)) only [go_sem, get_miss, seval, reduceCtorEq, eX, eq_self_iff_true, decide_true, decide_false, not_true_eq_false, not_false_eq_true] <;> with_reducible rfl)); (case he => (simp only [go_sem] <;> with_reducible rfl)); (case hcl => (simp)); (case hf => (simp only [go_sem] <;> with_reducible rfl))) | fail)
      all_goals try (first | exact True.intro | exact not_false | omega)
      all_goals try (simp (disch := first | omega | (simp only [go_sem]; omega)) only [go_sem, get_miss, seval, reduceCtorEq] <;> first | exact True.intro | omega)
      all_goals clear hu hc n1 n2 m2 m3 i2 i3 ux m4 i4
      all_goals first
        | exact ⟨2, ⟨by omega, by intro _; first | (exfalso; omega) | assumption | (simp [eX]; done), by intro _; first | (exfalso; omega) | assumption | (simp [eX]; done)⟩, Sub.of_all (by simp [Fr.get]), rfl, by omega⟩
        | (simp (disch := first | omega | (simp only [go_sem]; omega)) only [go_sem, get_miss, seval, reduceCtorEq]; done)
        | (simp (disch := first | omega | (simp only [go_sem]; omega)) only [go_sem, get_miss, seval, reduceCtorEq]; simp [eX, e1]; done)
        | (simp [eX, e1]; done)
    · have e1 := h1 (by omega); have e2 := h2 (by omega); clear h1 h2
      repeat' (first | refine aC_seq ?_ | refine aC_reg rfl ?_ | refine aC_exit ?_ | refine aC_ret ?_ | refine thenQ_normal ?_ | refine thenQ_exit ?_ | refine blockQ_hit ?_ | refine aL_nil ?_ | (apply aL_step; (· exact True.intro); (· simp (disch := first | omega | (simp only [go_sem]; omega)) only [go_sem, get_miss, seval, reduceCtorEq, eq_self_iff_true, decide_true, decide_false]); (· simp (disch := first | omega | (simp only [go_sem]; omega)) only [go_sem, get_miss, seval, reduceCtorEq, eq_self_iff_true, decide_true, decide_false] <;> with_reducible rfl); (· simp only [go_sem] <;> with_reducible rfl)) | (refine aC_condF ?_ ?_; (· simp (disch := first | omega | (simp only [go_sem]; omega)) only [go_sem, get_miss, seval, reduceCtorEq, eq_self_iff_true, decide_true, decide_false])) | fail)
      all_goals try (first | exact True.intro | exact not_false | omega)
      all_goals try (simp (disch := first | omega | (simp only [go_sem]; omega)) only [go_sem, get_miss, seval, reduceCtorEq] <;> first | exact True.intro | omega)
      all_goals clear hu hc n1 n2 m2 m3 i2 i3 ux m4 i4
      all_goals first
        | (simp (disch := first | omega | (simp only [go_sem]; omega)) only [go_sem, get_miss, seval, reduceCtorEq]; done)
        | (simp (disch := first | omega | (simp only [go_sem]; omega)) only [go_sem, get_miss, seval, reduceCtorEq]; simp [e1, e2]; done)
        | (simp [e1, e2]; done)
  · simp only [if_true, Bool.true_and] at *
    refine pure_fn cxOk Tryz.func10 (by kernel_rfl) (fun _ => false) (fe10.q) (by kernel_rfl) (Nat.le_of_ble_eq_true (by kernel_rfl)) ?_
    dsimp only [LB, Tryz.f10, lite, nextOf, Option.isNone, Bool.not_true, Bool.not_false, Bool.and_true, Bool.true_and, Bool.false_and, Bool.and_self, Bool.false_eq_true, if_false, if_true, ↓reduceIte, liteO, List.map, Option.map, frame0, List.zipIdx, Nat.reduceAdd]
    try simp only [List.getElem?_toArray, List.getElem?_cons_succ, List.getElem?_cons_zero, Option.bind_some]
    repeat' (first | refine aC_seq ?_ | refine aC_reg rfl ?_ | refine aC_skip ?_ | refine thenQ_normal ?_ | refine aL_nil ?_ | (apply aL_step; (· exact True.intro); (· simp (disch := first | omega | (simp only [go_sem]; omega)) only [go_sem, get_miss, seval, reduceCtorEq, g1, g2]); (· simp (disch := first | omega | (simp only [go_sem]; omega)) only [go_sem, get_miss, seval, reduceCtorEq, g1, g2] <;> with_reducible rfl); (· simp only [go_sem] <;> with_reducible rfl)) | (refine aC_condF ?_ ?_; (· simp (disch := first | omega | (simp only [go_sem]; omega)) only [go_sem, get_miss, seval, reduceCtorEq, g1, g2])) | (apply aL_pure cxG (hu); (case hg => (simp (disch := first | omega | (simp only [go_sem]; omega)) only [go_sem, get_miss, seval, reduceCtorEq, g1, g2])); (case hx => (simp (disch := first | omega | (simp only [go_sem]; omega)) only [go_sem, get_miss, seval, reduceCtorEq, g1, g2] <;> with_reducible rfl)); (case ha => (simp (disch := first | omega | (simp only [go_sem]; omega)) only [go_sem, get_miss, seval, reduceCtorEq, g1, g2] <;> with_reducible rfl)); (case he => (simp only [go_sem] <;> with_reducible rfl)); (case hcl => (simp)); (case hf => (simp only [go_sem] <;> with_reducible rfl))) | (apply aL_acall ((hc _)); (case hg => (simp (disch := first | omega | (simp only [go_sem]; omega)) only [go_sem, get_miss, seval, reduceCtorEq, g1, g2])); (case hx => (simp (disch := first | omega | (simp only [go_sem]; omega)) only [go_sem, get_miss, seval, reduceCtorEq, g1, g2] <;> with_reducible rfl)); (case ha => (simp (disch := first | omega | (simp only [go_sem]; omega)) only [go_sem, get_miss, seval, reduceCtorEq, g1, g2] <;> with_reducible rfl)); (case he => (with_reducible rfl)); (case hp => (rfl)); (case hf => (simp only [go_sem] <;> with_reducible rfl))) | (apply aL_pure cxG (ux); (case hg => (simp (disch := first | omega | (simp only [go_sem]; omega)) only [go_sem, get_miss, seval, reduceCtorEq, g1, g2])); (case hx => (simp (disch := first | omega | (simp only [go_sem]; omega)) only [go_sem, get_miss, seval, reduceCtorEq, g1, g2] <;> with_reducible rfl)); (case ha => (simp (disch := first | omega | (simp only [go_sem]; omega)) only [go_sem, get_miss, seval, reduceCtorEq, g1, g2] <;> with_reducible rfl)); (case he => (simp only [go_sem] <;> with_reducible rfl)); (case hcl => (simp)); (case hf => (simp only [go_sem] <;> with_reducible rfl))) | fail)
    all_goals try (first | exact True.intro | exact not_false | omega)
    all_goals try (simp (disch := first | omega | (simp only [go_sem]; omega)) only [go_sem, get_miss, seval, reduceCtorEq] <;> first | exact True.intro | omega)
    refine aC_regB (U := [(some 37, some 33), (some 41, some 33), (some 41, some 38)]) rfl [] ?_
    repeat' (first | refine aLB_nil ?_ | (apply aLB_step; (· exact True.intro); (· exact (by intro h; cases h)); (· rfl); (· simp (disch := first | omega | (simp only [go_sem]; omega)) only [go_sem, get_miss, seval, reduceCtorEq, g1, g2]); (· simp (disch := first | omega | (simp only [go_sem]; omega)) only [go_sem, get_miss, seval, reduceCtorEq, g1, g2] <;> with_reducible rfl); (· simp only [go_sem] <;> with_reducible rfl); (· (intro b hb; first | (cases hb; done) | (simp (disch := first | omega | (simp only [go_sem]; omega)) only [loadBox, go_sem, get_miss, seval, reduceCtorEq] at hb; (try injection hb with hb); subst hb; simp)))) | (apply aLB_pure cxG (n1); (case hg => (simp (disch := first | omega | (simp only [go_sem]; omega)) only [go_sem, get_miss, seval, reduceCtorEq, g1, g2])); (case hx => (simp (disch := first | omega | (simp only [go_sem]; omega)) only [go_sem, get_miss, seval, reduceCtorEq, g1, g2] <;> with_reducible rfl)); (case ha => (simp (disch := first | omega | (simp only [go_sem]; omega)) only [go_sem, get_miss, seval, reduceCtorEq, g1, g2] <;> with_reducible rfl)); (case he => (simp only [go_sem] <;> with_reducible rfl)); (case hcl => (simp)); (case hf => (simp only [go_sem] <;> with_reducible rfl))) | (apply aLB_pure cxG (n2); (case hg => (simp (disch := first | omega | (simp only [go_sem]; omega)) only [go_sem, get_miss, seval, reduceCtorEq, g1, g2])); (case hx => (simp (disch := first | omega | (simp only [go_sem]; omega)) only [go_sem, get_miss, seval, reduceCtorEq, g1, g2] <;> with_reducible rfl)); (case ha => (simp (disch := first | omega | (simp only [go_sem]; omega)) only [go_sem, get_miss, seval, reduceCtorEq, g1, g2] <;> with_reducible rfl)); (case he => (simp only [go_sem] <;> with_reducible rfl)); (case hcl => (simp)); (case hf => (simp only [go_sem] <;> with_reducible rfl))) | fail)
    repeat' (first | refine aC_seq ?_ | refine aC_reg rfl ?_ | refine aC_block ?_ | refine aC_loop ?_ | refine thenQ_normal ?_ | refine aL_nil ?_ | (apply aL_step; (· exact True.intro); (· simp (disch := first | omega | (simp only [go_sem]; omega)) only [go_sem, get_miss, seval, reduceCtorEq]); (· simp (disch := first | omega | (simp only [go_sem]; omega)) only [go_sem, get_miss, seval, reduceCtorEq] <;> with_reducible rfl); (· simp only [go_sem] <;> with_reducible rfl)) | (refine aC_condT ?_ ?_; (· simp (disch := first | omega | (simp only [go_sem]; omega)) only [go_sem, get_miss, seval, reduceCtorEq])) | fail)
    all_goals try (first | exact True.intro | exact not_false | omega)
    all_goals try (simp (disch := first | omega | (simp only [go_sem]; omega)) only [go_sem, get_miss, seval, reduceCtorEq] <;> first | exact True.intro | omega)
    all_goals try (intro _ _ h; exact h.elim)
    refine loop_rule (cxOk.wp _ _) (σ := Nat) (fun k => [(10, .int .i64 k), (9, .sl 11 false [.agg [.int .i64 2, .int .i64 0, .int .u64 0, .int .u64 0, .int .u64 0, .int .u64 0, .int .u64 0, .int .u64 0, .int .u64 (a : Nat), .int .u64 0, .sl 1 true [] .any], .agg [.int .i64 3, .int .i64 0, .int .u64 0, .int .u64 0, .int .u64 0, .int .u64 0, .int .u64 0, .int .u64 0, .int .u64 (a : Nat), .int .u64 (b : Nat), .sl 1 true [] .any], .agg [.int .i64 4, .int .i64 0, .int .u64 0, .int .u64 0, .int .u64 0, .int .u64 0, .int .u64 0, .int .u64 0, .int .u64 0, .int .u64 0, .sl 1 u.isEmpty (bl u) .any]] (.grow 3)), (2, .ptr 0 0), (0, .str s)])
      (fun _ => _) (fun k => 3 - k) (fun k => k ≤ 3 ∧ (1 ≤ k → (q2 && decide (X2 = s)) = false) ∧ (2 ≤ k → (q3 && decide (X3 = s)) = false) ∧ (3 ≤ k → (q4 && decide (X4 = s)) = false)) 0 (GStep.refl _ _) ⟨⟨Nat.zero_le _, fun h => absurd h (by decide), fun h => absurd h (by decide), fun h => absurd h (by decide)⟩, Sub.of_all (by simp [Fr.get]), rfl⟩ ?_
    rintro k ⟨hk, h1, h2, h3⟩
    have hkk : k = 0 ∨ k = 1 ∨ k = 2 ∨ k = 3 := by omega
    rcases hkk with rfl | rfl | rfl | rfl
    · clear h1 h2 h3
      cases q2
      all_goals by_cases eX : X2 = s
      all_goals
      repeat' (first | refine aC_seq ?_ | refine aC_reg rfl ?_ | refine aC_block ?_ | refine aC_skip ?_ | refine aC_ret ?_ | refine thenQ_normal ?_ | refine blockQ_normal ?_ | refine thenQ_ret ?_ | refine blockQ_ret ?_ | refine aL_nil ?_ | (apply aL_step; (· exact True.intro); (· simp (disch := first | omega | (simp only [go_sem]; omega)) only [go_sem, get_miss, seval, reduceCtorEq, eX, eq_self_iff_true, decide_true, decide_false, not_true_eq_false, not_false_eq_true]); (· simp (disch := first | omega | (simp only [go_sem]; omega)) only [go_sem, get_miss, seval, reduceCtorEq, eX, eq_self_iff_true, decide_true, decide_false, not_true_eq_false, not_false_eq_true] <;> with_reducible rfl); (· simp only [go_sem] <;> with_reducible rfl)) | (refine aL_skip ?_ (by simp only [go_sem] <;> with_reducible rfl) ?_; (· simp (disch := first | omega | (simp only [go_sem]; omega)) only [go_sem, get_miss, seval, reduceCtorEq, eX, eq_self_iff_true, decide_true, decide_false, not_true_eq_false, not_false_eq_true])) | (refine aC_condT ?_ ?_; (· simp (disch := first | omega | (simp only [go_sem]; omega)) only [go_sem, get_miss, seval, reduceCtorEq, eX, eq_self_iff_true, decide_true, decide_false, not_true_eq_false, not_false_eq_true])) | (refine aC_condF ?_ ?_; (· simp (disch := first | omega | (simp only [go_sem]; omega)) only [go_sem, get_miss, seval, reduceCtorEq, eX, eq_self_iff_true, decide_true, decide_false, not_true_eq_false, not_false_eq_true])) | (apply aL_pure cxG (m2); (case hg => (simp (disch := first | omega | (simp only [go_sem]; omega)) only [go_sem, get_miss, seval, reduceCtorEq, eX, eq_self_iff_true, decide_true, decide_false, not_true_eq_false, not_false_eq_true])); (case hx => (simp (disch := first | omega | (simp only [go_sem]; omega)) only [go_sem, get_miss, seval, reduceCtorEq, eX, eq_self_iff_true, decide_true, decide_false, not_true_eq_false, not_false_eq_true] <;> with_reducible rfl)); (case ha => (simp (disch := first | omega | (simp only [go_sem]; omega)) only [go_sem, get_miss, seval, reduceCtorEq, eX, eq_self_iff_true, decide_true, decide_false, not_true_eq_false, not_false_eq_true] <;> with_reducible rfl)); (case he => (simp only [go_sem] <;> with_reducible rfl)); (case hcl => (simp)); (case hf => (simp only [go_sem] <;> with_reducible rfl))) | (apply aL_pure cxG (i2); (case hg => (simp (disch := first | omega | (simp only [go_sem]; omega)) only [go_sem, get_miss, seval, reduceCtorEq, eX, eq_self_iff_true, decide_true, decide_false, not_true_eq_false, not_false_eq_true])); (case hx => (simp (disch := first | omega | (simp only [go_sem]; omega)) only [go_sem, get_miss, seval, reduceCtorEq, eX, eq_self_iff_true, decide_true, decide_false, not_true_eq_false, not_false_eq_true] <;> with_reducible rfl)); (case ha => (simp (disch := first | omega | (simp only [go_sem]; omega)) only [go_sem, get_miss, seval, reduceCtorEq, eX, eq_self_iff_true, decide_true, decide_false, not_true_eq_false, not_false_eq_true] <;> with_reducible rfl)); (case he => (simp only [go_sem] <;> with_reducible rfl)); (case hcl => (simp)); (case hf => (simp only [go_sem] <;> with_reducible rfl))) | fail)
      all_goals try (first | exact True.intro | exact not_false | omega)
      all_goals try (simp (disch := first | omega | (simp only [go_sem]; omega)) only [go_sem, get_miss, seval, reduceCtorEq] <;> first | exact True.intro | omega)
      all_goals clear hu hc n1 n2 m2 m3 i2 i3 ux m4 i4
      all_goals first
        | exact ⟨1, ⟨by omega, by intro _; first | (exfalso; omega) | assumption | (simp [eX]; done), by intro _; first | (exfalso; omega) | assumption | (simp [eX]; done), by intro _; first | (exfalso; omega) | assumption | (simp [eX]; done)⟩, Sub.of_all (by simp [Fr.get]), rfl, by omega⟩
        | (simp (disch := first | omega | (simp only [go_sem]; omega)) only [go_sem, get_miss, seval, reduceCtorEq]; done)
        | (simp (disch := first | omega | (simp only [go_sem]; omega)) only [go_sem, get_miss, seval, reduceCtorEq]; simp [eX]; done)
        | (simp [eX]; done)
    · have e1 := h1 (by omega); clear h1 h2 h3
      cases q3
      all_goals by_cases eX : X3 = s
      all_goals
      repeat' (first | refine aC_seq ?_ | refine aC_reg rfl ?_ | refine aC_block ?_ | refine aC_skip ?_ | refine aC_ret ?_ | refine thenQ_normal ?_ | refine blockQ_normal ?_ | refine thenQ_ret ?_ | refine blockQ_ret ?_ | refine aL_nil ?_ | (apply aL_step; (· exact True.intro); (· simp (disch := first | omega | (simp only [go_sem]; omega)) only [go_sem, get_miss, seval, reduceCtorEq, eX, eq_self_iff_true, decide_true, decide_false, not_true_eq_false, not_false_eq_true]); (· simp (disch := first | omega | (simp only [go_sem]; omega)) only [go_sem, get_miss, seval, reduceCtorEq, eX, eq_self_iff_true, decide_true, decide_false, not_true_eq_false, not_false_eq_true] <;> with_reducible rfl); (· simp only [go_sem] <;> with_reducible rfl)) | (refine aL_skip ?_ (by simp only [go_sem] <;> with_reducible rfl) ?_; (· simp (disch := first | omega | (simp only [go_sem]; omega)) only [go_sem, get_miss, seval, reduceCtorEq, eX, eq_self_iff_true, decide_true, decide_false, not_true_eq_false, not_false_eq_true])) | (refine aC_condT ?_ ?_; (· simp (disch := first | omega | (simp only [go_sem]; omega)) only [go_sem, get_miss, seval, reduceCtorEq, eX, eq_self_iff_true, decide_true, decide_false, not_true_eq_false, not_false_eq_true])) | (refine aC_condF ?_ ?_; (· simp (disch := first | omega | (simp only [go_sem]; omega)) only [go_sem, get_miss, seval, reduceCtorEq, eX, eq_self_iff_true, decide_true, decide_false, not_true_eq_false, not_false_eq_true])) | (apply aL_pure cxG (m3); (case hg => (simp (disch := first | omega | (simp only [go_sem]; omega)) only [go_sem, get_miss, seval, reduceCtorEq, eX, eq_self_iff_true, decide_true, decide_false, not_true_eq_false, not_false_eq_true])); (case hx => (simp (disch := first | omega | (simp only [go_sem]; omega)) only [go_sem, get_miss, seval, reduceCtorEq, eX, eq_self_iff_true, decide_true, decide_false, not_true_eq_false, not_false_eq_true] <;> with_reducible rfl)); (case ha => (simp (disch := first | omega | (simp only [go_sem]; omega)) only [go_sem, get_miss, seval, reduceCtorEq, eX, eq_self_iff_true, decide_true, decide_false, not_true_eq_false, not_false_eq_true] <;> with_reducible rfl)); (case he => (simp only [go_sem] <;> with_reducible rfl)); (case hcl => (simp)); (case hf => (simp only [go_sem] <;> with_reducible rfl))) | (apply aL_pure cxG (i3); (case hg => (simp (disch := first | omega | (simp only [go_sem]; omega)) only [go_sem, get_miss, seval, reduceCtorEq, eX, eq_self_iff_true, decide_true, decide_false, not_true_eq_false, not_false_eq_true])); (case hx => (simp (disch := first | omega | (simp only [go_sem]; omega)) only [go_sem, get_miss, seval, reduceCtorEq, eX, eq_self_iff_true, decide_true, decide_false, not_true_eq_false, not_false_eq_true] <;> with_reducible rfl)); (case ha => (simp (disch := first | omega | (simp only [go_sem]; omega)) only [go_sem, get_miss, seval, reduceCtorEq, eX, eq_self_iff_true, decide_true, decide_false, not_true_eq_false, not_false_eq_true] <;> with_reducible rfl)); (case he => (simp only [go_sem] <;> with_reducible rfl)); (case hcl => (simp)); (case hf => (simp only [go_sem] <;> with_reducible rfl))) | fail)
      all_goals try (first | exact True.intro | exact not_false | omega)
      all_goals try (simp (disch := first | omega | (simp only [go_sem]; omega)) only [go_sem, get_miss, seval, reduceCtorEq] <;> first | exact True.intro | omega)
      all_goals clear hu hc n1 n2 m2 m3 i2 i3 ux m4 i4
      all_goals first
        | exact ⟨2, ⟨by omega, by intro _; first | (exfalso; omega) | assumption | (simp [eX]; done), by intro _; first | (exfalso; omega) | assumption | (simp [eX]; done), by intro _; first | (exfalso; omega) | assumption | (simp [eX]; done)⟩, Sub.of_all (by simp [Fr.get]), rfl, by omega⟩
        | (simp (disch := first | omega | (simp only [go_sem]; omega)) only [go_sem, get_miss, seval, reduceCtorEq]; done)
        | (simp (disch := first | omega | (simp only [go_sem]; omega)) only [go_sem, get_miss, seval, reduceCtorEq]; simp [eX, e1]; done)
        | (simp [eX, e1]; done)
    · have e1 := h1 (by omega); have e2 := h2 (by omega); clear h1 h2 h3
      cases q4
      all_goals by_cases eX : X4 = s
      all_goals
      repeat' (first | refine aC_seq ?_ | refine aC_reg rfl ?_ | refine aC_block ?_ | refine aC_skip ?_ | refine aC_ret ?_ | refine thenQ_normal ?_ | refine blockQ_normal ?_ | refine thenQ_ret ?_ | refine blockQ_ret ?_ | refine aL_nil ?_ | (apply aL_step; (· exact True.intro); (· simp (disch := first | omega | (simp only [go_sem]; omega)) only [go_sem, get_miss, seval, reduceCtorEq, eX, eq_self_iff_true, decide_true, decide_false, not_true_eq_false, not_false_eq_true]); (· simp (disch := first | omega | (simp only [go_sem]; omega)) only [go_sem, get_miss, seval, reduceCtorEq, eX, eq_self_iff_true, decide_true, decide_false, not_true_eq_false, not_false_eq_true] <;> with_reducible rfl); (· simp only [go_sem] <;> with_reducible rfl)) | (refine aL_skip ?_ (by simp only [go_sem] <;> with_reducible rfl) ?_; (· simp (disch := first | omega | (simp only [go_sem]; omega)) only [go_sem, get_miss, seval, reduceCtorEq, eX, eq_self_iff_true, decide_true, decide_false, not_true_eq_false, not_false_eq_true])) | (refine aC_condT ?_ ?_; (· simp (disch := first | omega | (simp only [go_sem]; omega)) only [go_sem, get_miss, seval, reduceCtorEq, eX, eq_self_iff_true, decide_true, decide_false, not_true_eq_false, not_false_eq_true])) | (refine aC_condF ?_ ?_; (· simp (disch := first | omega | (simp only [go_sem]; omega)) only [go_sem, get_miss, seval, reduceCtorEq, eX, eq_self_iff_true, decide_true, decide_false, not_true_eq_false, not_false_eq_true])) | (apply aL_pure cxG (m4); (case hg => (simp (disch := first | omega | (simp only [go_sem]; omega)) only [go_sem, get_miss, seval, reduceCtorEq, eX, eq_self_iff_true, decide_true, decide_false, not_true_eq_false, not_false_eq_true])); (case hx => (simp (disch := first | omega | (simp only [go_sem]; omega)) only [go_sem, get_miss, seval, reduceCtorEq, eX, eq_self_iff_true, decide_true, decide_false, not_true_eq_false, not_false_eq_true] <;> with_reducible rfl)); (case ha => (simp (disch := first | omega | (simp only [go_sem]; omega)) only [go_sem, get_miss, seval, reduceCtorEq, eX, eq_self_iff_true, decide_true, decide_false, not_true_eq_false, not_false_eq_true] <;> with_reducible rfl)); (case he => (simp only [go_sem] <;> with_reducible rfl)); (case hcl => (simp)); (case hf => (simp only [go_sem] <;> with_reducible rfl))) | (apply aL_pure cxG (i4); (case hg => (simp (disch := first | omega | (simp only [go_sem]; omega)) only [go_sem, get_miss, seval, reduceCtorEq, eX, eq_self_iff_true, decide_true, decide_false, not_true_eq_false, not_false_eq_true])); (case hx => (simp (disch := first | omega | (simp only [go_sem]; omega)) only [go_sem, get_miss, seval, reduceCtorEq, eX, eq_self_iff_true, decide_true, decide_false, not_true_eq_false, not_false_eq_true] <;> with_reducible rfl)); (case ha => (simp (disch := first | omega | (simp only [go_sem]; omega)) only [go_sem, get_miss, seval, reduceCtorEq, eX, eq_self_iff_true, decide_true, decide_false, not_true_eq_false, not_false_eq_true] <;> with_reducible rfl)); (case he => (simp only [go_sem] <;> with_reducible rfl)); (case hcl => (simp)); (case hf => (simp only [go_sem] <;> with_reducible rfl))) | fail)
      all_goals try (first | exact True.intro | exact not_false | omega)
      all_goals try (simp (disch := first | omega | (simp only [go_sem]; omega)) only [go_sem, get_miss, seval, reduceCtorEq] <;> first | exact True.intro | omega)
      all_goals clear hu hc n1 n2 m2 m3 i2 i3 ux m4 i4
      all_goals first
        | exact ⟨3, ⟨by omega, by intro _; first | (exfalso; omega) | assumption | (simp [eX]; done), by intro _; first | (exfalso; omega) | assumption | (simp [eX]; done), by intro _; first | (exfalso; omega) | assumption | (simp [eX]; done)⟩, Sub.of_all (by simp [Fr.get]), rfl, by omega⟩
        | (simp (disch := first | omega | (simp only [go_sem]; omega)) only [go_sem, get_miss, seval, reduceCtorEq]; done)
        | (simp (disch := first | omega | (simp only [go_sem]; omega)) only [go_sem, get_miss, seval, reduceCtorEq]; simp [eX, e1, e2]; done)
        | (simp [eX, e1, e2]; done)
    · have e1 := h1 (by omega); have e2 := h2 (by omega); have e3 := h3 (by omega); clear h1 h2 h3
      repeat' (first | refine aC_seq ?_ | refine aC_reg rfl ?_ | refine aC_exit ?_ | refine aC_ret ?_ | refine thenQ_normal ?_ | refine thenQ_exit ?_ | refine blockQ_hit ?_ | refine aL_nil ?_ | (apply aL_step; (· exact True.intro); (· simp (disch := first | omega | (simp only [go_sem]; omega)) only [go_sem, get_miss, seval, reduceCtorEq, eq_self_iff_true, decide_true, decide_false]); (· simp (disch := first | omega | (simp only [go_sem]; omega)) only [go_sem, get_miss, seval, reduceCtorEq, eq_self_iff_true, decide_true, decide_false] <;> with_reducible rfl); (· simp only [go_sem] <;> with_reducible rfl)) | (refine aC_condF ?_ ?_; (· simp (disch := first | omega | (simp only [go_sem]; omega)) only [go_sem, get_miss, seval, reduceCtorEq, eq_self_iff_true, decide_true, decide_false])) | fail)
      all_goals try (first | exact True.intro | exact not_false | omega)
      all_goals try (simp (disch := first | omega | (simp only [go_sem]; omega)) only [go_sem, get_miss, seval, reduceCtorEq] <;> first | exact True.intro | omega)
      all_goals clear hu hc n1 n2 m2 m3 i2 i3 ux m4 i4
      all_goals first
        | (simp (disch := first | omega | (simp only [go_sem]; omega)) only [go_sem, get_miss, seval, reduceCtorEq]; done)
        | (simp (disch := first | omega | (simp only [go_sem]; omega)) only [go_sem, get_miss, seval, reduceCtorEq]; simp [e1, e2, e3]; done)
        | (simp [e1, e2, e3]; done)
end
end Go.Am
end
section
namespace Go.Am
open Go Go.Proofs
set_option maxHeartbeats 8000000
set_option maxRecDepth 100000
section
attribute [local irreducible] aC aL thenQ blockQ scopeQ ALoop AWp
theorem ref_unline_call (s : List UInt8) (hs : s.length ≤ 9000) (op : Int) (xs : List Nat) (h : IsCall s op xs) :
    APure cx 10 [.str s] (.tup [.agg (spC ⟨1, op, xs, 0, 0, []⟩ true .any), .bool true]) := by
  have hu := ref_Untext s (by omega) _ (.inl ⟨op, xs, h, rfl⟩)
  obtain ⟨x0, x1, x2, x3, x4, x5, rfl⟩ := six h.2.1
  simp only [spC_six, wl_six, bl_nil, nz] at *
  clear h
  refine pure_fn cxOk Tryz.func10 (by kernel_rfl) (fun _ => false) (fe10.q) (by kernel_rfl) (Nat.le_of_ble_eq_true (by kernel_rfl)) ?_
  dsimp only [LB, Tryz.f10, lite, nextOf, Option.isNone, Bool.not_true, Bool.not_false, Bool.and_true, Bool.true_and, Bool.false_and, Bool.and_self, Bool.false_eq_true, if_false, if_true, ↓reduceIte, liteO, List.map, Option.map, frame0, List.zipIdx, Nat.reduceAdd]
  try simp only [List.getElem?_toArray, List.getElem?_cons_succ, List.getElem?_cons_zero, Option.bind_some]
  repeat' (first | refine aC_seq ?_ | refine aC_reg rfl ?_ | refine aC_ret ?_ | refine thenQ_normal ?_ | refine thenQ_ret ?_ | refine aL_nil ?_ | (apply aL_step; (· exact True.intro); (· simp (disch := first | omega | (simp only [go_sem]; omega)) only [go_sem, get_miss, seval, reduceCtorEq]); (· simp (disch := first | omega | (simp only [go_sem]; omega)) only [go_sem, get_miss, seval, reduceCtorEq] <;> with_reducible rfl); (· simp only [go_sem] <;> with_reducible rfl)) | (refine aC_condT ?_ ?_; (· simp (disch := first | omega | (simp only [go_sem]; omega)) only [go_sem, get_miss, seval, reduceCtorEq])) | (apply aL_pure cxG (hu); (case hg => (simp (disch := first | omega | (simp only [go_sem]; omega)) only [go_sem, get_miss, seval, reduceCtorEq])); (case hx => (simp (disch := first | omega | (simp only [go_sem]; omega)) only [go_sem, get_miss, seval, reduceCtorEq] <;> with_reducible rfl)); (case ha => (simp (disch := first | omega | (simp only [go_sem]; omega)) only [go_sem, get_miss, seval, reduceCtorEq] <;> with_reducible rfl)); (case he => (simp only [go_sem] <;> with_reducible rfl)); (case hcl => (simp)); (case hf => (simp only [go_sem] <;> with_reducible rfl))) | fail)
  all_goals try (first | exact True.intro | exact not_false | omega)
  all_goals try (simp (disch := first | omega | (simp only [go_sem]; omega)) only [go_sem, get_miss, seval, reduceCtorEq] <;> first | exact True.intro | omega)
  all_goals clear hu
  all_goals try (simp (disch := first | omega | (simp only [go_sem]; omega)) only [go_sem, get_miss, seval, reduceCtorEq])
  all_goals try simp
theorem band_dec {p q : Prop} [Decidable p] [Decidable q] (h : ¬ (p ∧ q)) : (decide p && decide q) = false := by
  rw [← Bool.decide_and]; exact decide_eq_false h
theorem band_dec1 {p q : Prop} [Decidable p] [Decidable q] (h : p ∧ q) : (decide p && decide q) = true := by
  rw [← Bool.decide_and]; exact decide_eq_true h
theorem ref_Unline (s : List UInt8) (hs : s.length ≤ 9000) (r : AVal) (hr : (∃ st, IsStep s st ∧ r = .tup [.agg (spC st st.b.isEmpty .any), .bool true]) ∨
    ((∀ st, ¬ IsStep s st) ∧ r = .tup [.agg (spC Sp.zero true .any), .bool false])) : APure cx 10 [.str s] r := by
  obtain ⟨k2, k3, k4⟩ := rc_ok s hs
  rcases hr with ⟨st, h, rfl⟩ | ⟨h, rfl⟩
  · by_cases h1 : st.k = 1
    · obtain ⟨hc, he⟩ := step_call h h1
      have := ref_unline_call s hs _ _ hc
      rw [← he] at this
      have hb : st.b = [] := by rw [he]
      rw [hb]
      exact this
    · have hn := step_nocall h h1
      refine ref_unline_cand s hs hn _ ?_
      by_cases b2 : MayS (rc2 (pt s 1)) ∧ lineS (rc2 (pt s 1)) = s
      · have e : rc2 (pt s 1) = st := step_unique ⟨b2.1, k2, b2.2⟩ h (show (2 : Int) ≠ 1 by decide) h1
        rw [band_dec1 b2, cond_true, ← e]
        rfl
      · rw [band_dec b2, cond_false]
        by_cases b3 : MayS (rc3 (pt s 1) (pt s 2)) ∧ lineS (rc3 (pt s 1) (pt s 2)) = s
        · have e : rc3 (pt s 1) (pt s 2) = st := step_unique ⟨b3.1, k3, b3.2⟩ h (show (3 : Int) ≠ 1 by decide) h1
          rw [band_dec1 b3, cond_true, ← e]
          rfl
        · rw [band_dec b3, cond_false]
          rcases ref_cand h h1 with e | e | ⟨hg, e⟩
          · exact absurd ⟨e ▸ h.1, e ▸ h.2.2⟩ b2
          · exact absurd ⟨e ▸ h.1, e ▸ h.2.2⟩ b3
          · have b4 : MayS (rc4 (pt s 1)) ∧ lineS (rc4 (pt s 1)) = s := ⟨e ▸ h.1, e ▸ h.2.2⟩
            rw [hg, Bool.true_and, band_dec1 b4, cond_true, e]
            rfl
  · have hn : ∀ op xs, ¬ IsCall s op xs := fun op xs hc => h _ (call_step hc)
    refine ref_unline_cand s hs hn _ ?_
    rw [band_dec fun q => h _ ⟨q.1, k2, q.2⟩, cond_false, band_dec fun q => h _ ⟨q.1, k3, q.2⟩, cond_false, Bool.and_assoc, band_dec fun q => h _ ⟨q.1, k4, q.2⟩, Bool.and_false, cond_false]
end
end Go.Am
end
