/- View chapter: the granules that differ. -/
import Derived.Test.YtligpgckkbloaaaGreatV03
set_option linter.unusedVariables false
set_option linter.unusedSimpArgs false
namespace Go.Am
open Go Go.Proofs
set_option maxHeartbeats 8000000
set_option maxRecDepth 100000
section
attribute [local irreducible] aC aL thenQ blockQ scopeQ ALoop AWp
def difV (a b : Vw) (k : Nat) : Bool := (!akI a.s b.s k) || ((!akI a.h b.h k) || (!akG a.b b.b k))
def topV (a b : Vw) : Nat := max (max (max (max (max a.s.length b.s.length) a.h.length) b.h.length) a.b.length) b.b.length
def difL (a b : Vw) (k : Nat) : List Int := ((List.range k).filter (difV a b)).map fun n => ((n : Nat) : Int)
theorem difL_succ (a b : Vw) (k : Nat) : difL a b (k + 1) = bif difV a b k then difL a b k ++ [((k : Nat) : Int)] else difL a b k := by
  unfold difL
  rw [List.range_succ, List.filter_append, List.map_append]
  by_cases h : difV a b k = true
  · rw [h, List.filter_cons_of_pos h]; rfl
  · rw [List.filter_cons_of_neg h, Bool.eq_false_iff.2 h]; simp
theorem difL_le (a b : Vw) (k : Nat) : (difL a b k).length ≤ k := by
  unfold difL
  rw [List.length_map]
  exact Nat.le_trans (List.length_filter_le _ _) (by simp)
theorem foldMM_six (f : Int → Int → Int) (k : IntKind) (a b c d e g : Int) : foldMM f [.int k a, .int k b, .int k c, .int k d, .int k e, .int k g] = some (.int k (f (f (f (f (f a b) c) d) e) g)) := rfl
theorem maxI_nat (a b : Nat) : maxI (a : Int) (b : Int) = ((max a b : Nat) : Int) := by unfold maxI; split <;> omega
attribute [go_sem] foldMM_six maxI_nat
theorem il_app (a : List Int) (x : Int) : il (a ++ [x]) = il a ++ [.int .i64 x] := by simp [il]
theorem view_differ (a b : Vw) (ha : a.Ok) (hb : b.Ok) (n0 n1 n2 m0 m1 m2 : Bool) :
    APure cx 6 [.agg (vwC a n0 n1 n2), .agg (vwC b m0 m1 m2)] (.sl 1 (difL a b (topV a b)).isEmpty (il (difL a b (topV a b))) .any) := by
  have e1 := fun k => alike_gs n0 m0 a.s b.s k (Nat.le_trans ha.s1 (by decide)) (Nat.le_trans hb.s1 (by decide))
  have e2 := fun k => alike_int n1 m1 a.h b.h k (Nat.le_trans ha.h1 (by decide)) (Nat.le_trans hb.h1 (by decide))
  have e3 := fun k => alike_gr n2 m2 a.b b.b k (Nat.le_trans ha.b1 (by decide)) (Nat.le_trans hb.b1 (by decide)) ha.b2 hb.b2
  have hN : topV a b ≤ 200 := by
    have := ha.s1; have := ha.h1; have := ha.b1; have := hb.s1; have := hb.h1; have := hb.b1
    unfold topV; omega
  have hmx : max (max (max (max (max a.s.length b.s.length) a.h.length) b.h.length) a.b.length) b.b.length = topV a b := rfl
  have hsucc := difL_succ a b
  have hle := difL_le a b
  unfold vwC
  generalize hN' : topV a b = N at *
  clear hN' ha hb
  refine pure_fnK cxOk Tryz.func6 (fun _ => false) (fe6.q) (by kernel_rfl) (by dsimp only [Tryz.f6, go_sem, seval, liteO, Option.map, List.map]; exact .mk _) ?_
  dsimp only [Tryz.f6, frame0, List.zipIdx, List.map, Nat.reduceAdd]
  try simp only [List.getElem?_toArray, List.getElem?_cons_succ, List.getElem?_cons_zero, Option.bind_some]
  repeat' (first | refine aC_seq ?_ | refine aC_reg rfl ?_ | refine aC_block ?_ | refine aC_skip ?_ | refine aC_loop ?_ | refine aC_scope ?_ | refine scopeQ_normal ?_ | refine scopeQ_exit ?_ | refine scopeQ_ret ?_ | refine aC_exit ?_ | refine aC_ret ?_ | refine thenQ_normal ?_ | refine blockQ_normal ?_ | refine thenQ_ret ?_ | refine blockQ_ret ?_ | refine thenQ_exit ?_ | refine blockQ_hit ?_ | refine blockQ_miss rfl ?_ | refine aL_nil ?_ | (apply aL_step; (· exact True.intro); (iterate 2 (· simp (disch := first | omega | (simp only [go_sem]; omega)) only [go_sem, seval, reduceCtorEq, hmx] <;> with_reducible rfl)); (· simp only [go_sem] <;> with_reducible rfl)) | (refine aL_skip ?_ (by simp only [go_sem] <;> with_reducible rfl) ?_; (· simp (disch := first | omega | (simp only [go_sem]; omega)) only [go_sem, seval, reduceCtorEq, hmx])) | (apply aL_guardN; (· simp (disch := first | omega | (simp only [go_sem]; omega)) only [go_sem, seval, reduceCtorEq, hmx] <;> with_reducible rfl); all_goals (intro h; first | (exfalso; omega) | (simp only [h, decide_true, decide_false, not_true, not_false_iff]))) | (apply aL_guardP; (· simp (disch := first | omega | (simp only [go_sem]; omega)) only [go_sem, seval, reduceCtorEq, hmx] <;> with_reducible rfl); all_goals (intro h; first | (exfalso; omega) | (simp only [h, decide_true, decide_false, not_true, not_false_iff]))) | (refine aC_condT ?_ ?_; (· simp (disch := first | omega | (simp only [go_sem]; omega)) only [go_sem, seval, reduceCtorEq, hmx])) | (refine aC_condF ?_ ?_; (· simp (disch := first | omega | (simp only [go_sem]; omega)) only [go_sem, seval, reduceCtorEq, hmx])) | (refine aC_condP (by simp (disch := first | omega | (simp only [go_sem]; omega)) only [go_sem, seval, reduceCtorEq, hmx] <;> with_reducible rfl) ?_ ?_ <;> (intro h; first | (exfalso; omega) | skip)) | fail)
  · refine loop_rule (cxOk.wp _ _) (σ := Nat) (fun k => [(26, .int .i64 k), (25, .int .i64 N), (5, .sl 1 (difL a b k).isEmpty (il (difL a b k)) (.grow 2)), (3, .ptr 1 0), (2, .ptr 0 0)])
      (fun k => [.cells [.sl 1 n0 (il a.s) .any, .sl 1 n1 (il a.h) .any, .sl 128 n2 (els bl a.b) .any] 26, .cells [.sl 1 m0 (il b.s) .any, .sl 1 m1 (il b.h) .any, .sl 128 m2 (els bl b.b) .any] 26, .grow (difL a b k).length 1 3]) (fun k => N - k) (fun k => k ≤ N) 0 (GStep.nil 5 1 3 rfl) ⟨Nat.zero_le _, Sub.of_all (by simp [Fr.get, frame0, difL, il]), by simp [difL]⟩ ?_
    intro k hk
    have hq := hsucc k
    have hq2 := hle k
    have c1 := e1 k
    have c2 := e2 k
    have c3 := e3 k
    unfold difV at hq
    generalize akI a.s b.s k = p at *
    generalize akI a.h b.h k = q at *
    generalize akG a.b b.b k = r at *
    generalize hL : difL a b k = L at *
    by_cases hlt : k < N
    · have hlt' : ((k : Nat) : Int) < (N : Int) := by omega
      have hl1 : L.length + 1 ≤ 9223372036854775807 := by omega
      rcases p with _ | _ <;> rcases q with _ | _ <;> rcases r with _ | _
      all_goals
        dsimp only [Bool.not_true, Bool.not_false, Bool.or_true, Bool.true_or, Bool.false_or, Bool.not, or, cond_true, cond_false, cond] at hq
        repeat' (first | refine aC_seq ?_ | refine aC_reg rfl ?_ | refine aC_block ?_ | refine aC_skip ?_ | refine aC_loop ?_ | refine aC_scope ?_ | refine scopeQ_normal ?_ | refine scopeQ_exit ?_ | refine scopeQ_ret ?_ | refine aC_exit ?_ | refine aC_ret ?_ | refine thenQ_normal ?_ | refine blockQ_normal ?_ | refine thenQ_ret ?_ | refine blockQ_ret ?_ | refine thenQ_exit ?_ | refine blockQ_hit ?_ | refine blockQ_miss rfl ?_ | refine aL_nil ?_ | (apply aL_step; (· exact True.intro); (iterate 2 (· simp (disch := first | omega | (simp only [go_sem]; omega)) only [go_sem, seval, reduceCtorEq, hlt', decide_true, decide_false, Bool.not_true, Bool.not_false] <;> with_reducible rfl)); (· simp only [go_sem] <;> with_reducible rfl)) | (refine aL_skip ?_ (by simp only [go_sem] <;> with_reducible rfl) ?_; (· simp (disch := first | omega | (simp only [go_sem]; omega)) only [go_sem, seval, reduceCtorEq, hlt', decide_true, decide_false, Bool.not_true, Bool.not_false])) | (apply aL_guardN; (· simp (disch := first | omega | (simp only [go_sem]; omega)) only [go_sem, seval, reduceCtorEq, hlt', decide_true, decide_false, Bool.not_true, Bool.not_false] <;> with_reducible rfl); all_goals (intro h; first | (exfalso; omega) | (simp only [h, decide_true, decide_false, not_true, not_false_iff]))) | (apply aL_guardP; (· simp (disch := first | omega | (simp only [go_sem]; omega)) only [go_sem, seval, reduceCtorEq, hlt', decide_true, decide_false, Bool.not_true, Bool.not_false] <;> with_reducible rfl); all_goals (intro h; first | (exfalso; omega) | (simp only [h, decide_true, decide_false, not_true, not_false_iff]))) | (refine aC_condT ?_ ?_; (· simp (disch := first | omega | (simp only [go_sem]; omega)) only [go_sem, seval, reduceCtorEq, hlt', decide_true, decide_false, Bool.not_true, Bool.not_false])) | (refine aC_condF ?_ ?_; (· simp (disch := first | omega | (simp only [go_sem]; omega)) only [go_sem, seval, reduceCtorEq, hlt', decide_true, decide_false, Bool.not_true, Bool.not_false])) | (refine aC_condP (by simp (disch := first | omega | (simp only [go_sem]; omega)) only [go_sem, seval, reduceCtorEq, hlt', decide_true, decide_false, Bool.not_true, Bool.not_false] <;> with_reducible rfl) ?_ ?_ <;> (intro h; first | (exfalso; omega) | skip)) | (apply aL_pK cxG (c1); (iterate 2 (· simp (disch := first | omega | (simp only [go_sem]; omega)) only [go_sem, seval, reduceCtorEq, hlt', decide_true, decide_false, Bool.not_true, Bool.not_false] <;> with_reducible rfl)); (· simp only [go_sem] <;> with_reducible rfl); (· simp)) | (apply aL_pure cxG (c1); (case hg => (simp (disch := first | omega | (simp only [go_sem]; omega)) only [go_sem, seval, reduceCtorEq, hlt', decide_true, decide_false, Bool.not_true, Bool.not_false])); (case hx => (simp (disch := first | omega | (simp only [go_sem]; omega)) only [go_sem, seval, reduceCtorEq, hlt', decide_true, decide_false, Bool.not_true, Bool.not_false] <;> with_reducible rfl)); (case ha => (simp (disch := first | omega | (simp only [go_sem]; omega)) only [go_sem, seval, reduceCtorEq, hlt', decide_true, decide_false, Bool.not_true, Bool.not_false] <;> with_reducible rfl)); (case he => (simp only [go_sem] <;> with_reducible rfl)); (case hcl => (simp)); (case hf => (simp only [go_sem] <;> with_reducible rfl))) | (apply aL_pK cxG (c2); (iterate 2 (· simp (disch := first | omega | (simp only [go_sem]; omega)) only [go_sem, seval, reduceCtorEq, hlt', decide_true, decide_false, Bool.not_true, Bool.not_false] <;> with_reducible rfl)); (· simp only [go_sem] <;> with_reducible rfl); (· simp)) | (apply aL_pure cxG (c2); (case hg => (simp (disch := first | omega | (simp only [go_sem]; omega)) only [go_sem, seval, reduceCtorEq, hlt', decide_true, decide_false, Bool.not_true, Bool.not_false])); (case hx => (simp (disch := first | omega | (simp only [go_sem]; omega)) only [go_sem, seval, reduceCtorEq, hlt', decide_true, decide_false, Bool.not_true, Bool.not_false] <;> with_reducible rfl)); (case ha => (simp (disch := first | omega | (simp only [go_sem]; omega)) only [go_sem, seval, reduceCtorEq, hlt', decide_true, decide_false, Bool.not_true, Bool.not_false] <;> with_reducible rfl)); (case he => (simp only [go_sem] <;> with_reducible rfl)); (case hcl => (simp)); (case hf => (simp only [go_sem] <;> with_reducible rfl))) | (apply aL_pK cxG (c3); (iterate 2 (· simp (disch := first | omega | (simp only [go_sem]; omega)) only [go_sem, seval, reduceCtorEq, hlt', decide_true, decide_false, Bool.not_true, Bool.not_false] <;> with_reducible rfl)); (· simp only [go_sem] <;> with_reducible rfl); (· simp)) | (apply aL_pure cxG (c3); (case hg => (simp (disch := first | omega | (simp only [go_sem]; omega)) only [go_sem, seval, reduceCtorEq, hlt', decide_true, decide_false, Bool.not_true, Bool.not_false])); (case hx => (simp (disch := first | omega | (simp only [go_sem]; omega)) only [go_sem, seval, reduceCtorEq, hlt', decide_true, decide_false, Bool.not_true, Bool.not_false] <;> with_reducible rfl)); (case ha => (simp (disch := first | omega | (simp only [go_sem]; omega)) only [go_sem, seval, reduceCtorEq, hlt', decide_true, decide_false, Bool.not_true, Bool.not_false] <;> with_reducible rfl)); (case he => (simp only [go_sem] <;> with_reducible rfl)); (case hcl => (simp)); (case hf => (simp only [go_sem] <;> with_reducible rfl))) | fail)
        all_goals try (first | exact True.intro | exact not_false | omega | (simp (disch := first | omega | (simp only [go_sem]; omega)) only [go_sem, seval, reduceCtorEq] <;> omega))
        all_goals try (exact ⟨k + 1, by omega, Sub.of_all (by simp [Fr.get, hq, il_app]), by simp [hq], by omega⟩)
    · have hk2 : k = N := by omega
      subst hk2
      rw [hL]
      repeat' (first | refine aC_seq ?_ | refine aC_reg rfl ?_ | refine aC_block ?_ | refine aC_skip ?_ | refine aC_loop ?_ | refine aC_scope ?_ | refine scopeQ_normal ?_ | refine scopeQ_exit ?_ | refine scopeQ_ret ?_ | refine aC_exit ?_ | refine aC_ret ?_ | refine thenQ_normal ?_ | refine blockQ_normal ?_ | refine thenQ_ret ?_ | refine blockQ_ret ?_ | refine thenQ_exit ?_ | refine blockQ_hit ?_ | refine blockQ_miss rfl ?_ | refine aL_nil ?_ | (apply aL_step; (· exact True.intro); (iterate 2 (· simp (disch := first | omega | (simp only [go_sem]; omega)) only [go_sem, seval, reduceCtorEq] <;> with_reducible rfl)); (· simp only [go_sem] <;> with_reducible rfl)) | (refine aL_skip ?_ (by simp only [go_sem] <;> with_reducible rfl) ?_; (· simp (disch := first | omega | (simp only [go_sem]; omega)) only [go_sem, seval, reduceCtorEq])) | (apply aL_guardN; (· simp (disch := first | omega | (simp only [go_sem]; omega)) only [go_sem, seval, reduceCtorEq] <;> with_reducible rfl); all_goals (intro h; first | (exfalso; omega) | (simp only [h, decide_true, decide_false, not_true, not_false_iff]))) | (apply aL_guardP; (· simp (disch := first | omega | (simp only [go_sem]; omega)) only [go_sem, seval, reduceCtorEq] <;> with_reducible rfl); all_goals (intro h; first | (exfalso; omega) | (simp only [h, decide_true, decide_false, not_true, not_false_iff]))) | (refine aC_condT ?_ ?_; (· simp (disch := first | omega | (simp only [go_sem]; omega)) only [go_sem, seval, reduceCtorEq])) | (refine aC_condF ?_ ?_; (· simp (disch := first | omega | (simp only [go_sem]; omega)) only [go_sem, seval, reduceCtorEq])) | (refine aC_condP (by simp (disch := first | omega | (simp only [go_sem]; omega)) only [go_sem, seval, reduceCtorEq] <;> with_reducible rfl) ?_ ?_ <;> (intro h; first | (exfalso; omega) | skip)) | fail)
      all_goals try (first | exact True.intro | exact not_false | omega | (simp (disch := first | omega | (simp only [go_sem]; omega)) only [go_sem, seval, reduceCtorEq] <;> omega))
      all_goals try (simp (disch := first | omega | (simp only [go_sem]; omega)) only [go_sem, seval, reduceCtorEq])
      all_goals try simp
  all_goals first | trivial | omega | simp
end
end Go.Am
