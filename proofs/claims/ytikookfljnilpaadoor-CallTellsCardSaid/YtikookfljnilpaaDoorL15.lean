/- CallTells, CallReads: the walks of the laws. -/
import Derived.Test.YtikookfljnilpaaDoorL05
import Derived.Test.YtikookfljnilpaaDoorL12
import Derived.Test.YtikookfljnilpaaDoorL13
set_option linter.unusedVariables false
set_option linter.unusedSimpArgs false
namespace Go.Am
open Go Go.Proofs
set_option linter.unusedSimpArgs false
set_option linter.unusedVariables false
set_option maxHeartbeats 8000000
set_option maxRecDepth 100000
section
attribute [local irreducible] aC aL thenQ blockQ scopeQ ALoop AWp

theorem law_tells (op : Int) (xs : List Nat) (hx : xs.length = 6) (hw : ∀ x ∈ xs, x < 18446744073709551616) :
    APure cx 4 [.agg (.int .i64 op :: wl xs)] (.bool true) := by
  have hb := call_Bytes op xs hx hw
  have ht := call_Text op xs hx hw
  have hm := call_May op xs hx
  have hr := ref_May op xs hx
  have n0 := law_num 0
  have n2 := law_num 2
  by_cases h : MayC op xs
  case neg =>
    rw [if_neg h] at hb ht
    rw [decide_eq_false h] at hm hr
    clear h
    refine pure_fn cxOk Tryd.func4 (by kernel_rfl) (fun _ => false) (fe4.q) (by kernel_rfl) (Nat.le_of_ble_eq_true (by kernel_rfl)) ?_
    dsimp only [LB, Tryd.f4, lite, nextOf, Option.isNone, Bool.not_true, Bool.not_false, Bool.and_true, Bool.true_and, Bool.false_and, Bool.and_self, Bool.false_eq_true, if_false, if_true, ↓reduceIte, liteO, List.map, Option.map, frame0, List.zipIdx, Nat.reduceAdd]
    try simp only [List.getElem?_toArray, List.getElem?_cons_succ, List.getElem?_cons_zero, Option.bind_some]
    repeat' (first
      | refine aC_seq ?_
      | refine aC_reg rfl ?_
      | refine aC_block ?_
      | refine aC_skip ?_
      | refine aC_loop ?_
      | refine aC_scope ?_
      | refine scopeQ_normal ?_
      | refine scopeQ_exit ?_
      | refine scopeQ_ret ?_
      | refine aC_exit ?_
      | refine aC_ret ?_
      | refine thenQ_normal ?_
      | refine blockQ_normal ?_
      | refine thenQ_ret ?_
      | refine blockQ_ret ?_
      | refine thenQ_exit ?_
      | refine blockQ_hit ?_
      | refine blockQ_miss rfl ?_
      | refine aL_nil ?_
      | (apply aL_step; (· exact True.intro); (· simp (disch := first | omega | (simp only [go_sem]; omega)) only [go_sem, get_miss, seval, reduceCtorEq, eq_self_iff_true, decide_true, decide_false, Bool.not_true, Bool.not_false, beq_self_eq_true, bne_self_eq_false]); (· simp (disch := first | omega | (simp only [go_sem]; omega)) only [go_sem, get_miss, seval, reduceCtorEq, eq_self_iff_true, decide_true, decide_false, Bool.not_true, Bool.not_false, beq_self_eq_true, bne_self_eq_false] <;> with_reducible rfl); (· simp only [go_sem] <;> with_reducible rfl))
      | (refine aL_skip ?_ (by simp only [go_sem] <;> with_reducible rfl) ?_; (· simp (disch := first | omega | (simp only [go_sem]; omega)) only [go_sem, get_miss, seval, reduceCtorEq, eq_self_iff_true, decide_true, decide_false, Bool.not_true, Bool.not_false, beq_self_eq_true, bne_self_eq_false]))
      | (apply aL_guardN; (· simp (disch := first | omega | (simp only [go_sem]; omega)) only [go_sem, get_miss, seval, reduceCtorEq, eq_self_iff_true, decide_true, decide_false, Bool.not_true, Bool.not_false, beq_self_eq_true, bne_self_eq_false] <;> with_reducible rfl); all_goals (intro h; first | (exfalso; omega) | (simp only [h, decide_true, decide_false, not_true, not_false_iff])))
      | (apply aL_guardP; (· simp (disch := first | omega | (simp only [go_sem]; omega)) only [go_sem, get_miss, seval, reduceCtorEq, eq_self_iff_true, decide_true, decide_false, Bool.not_true, Bool.not_false, beq_self_eq_true, bne_self_eq_false] <;> with_reducible rfl); all_goals (intro h; first | (exfalso; omega) | (simp only [h, decide_true, decide_false, not_true, not_false_iff])))
      | (refine aC_condT ?_ ?_; (· simp (disch := first | omega | (simp only [go_sem]; omega)) only [go_sem, get_miss, seval, reduceCtorEq, eq_self_iff_true, decide_true, decide_false, Bool.not_true, Bool.not_false, beq_self_eq_true, bne_self_eq_false]))
      | (refine aC_condF ?_ ?_; (· simp (disch := first | omega | (simp only [go_sem]; omega)) only [go_sem, get_miss, seval, reduceCtorEq, eq_self_iff_true, decide_true, decide_false, Bool.not_true, Bool.not_false, beq_self_eq_true, bne_self_eq_false]))
      | (refine aC_condP (by simp (disch := first | omega | (simp only [go_sem]; omega)) only [go_sem, get_miss, seval, reduceCtorEq, eq_self_iff_true, decide_true, decide_false, Bool.not_true, Bool.not_false, beq_self_eq_true, bne_self_eq_false] <;> with_reducible rfl) ?_ ?_ <;> (intro h; first | (exfalso; omega) | skip))
      | (apply aL_pure cxG (hb); (case hg => (simp (disch := first | omega | (simp only [go_sem]; omega)) only [go_sem, get_miss, seval, reduceCtorEq, eq_self_iff_true, decide_true, decide_false, Bool.not_true, Bool.not_false, beq_self_eq_true, bne_self_eq_false])); (case hx => (simp (disch := first | omega | (simp only [go_sem]; omega)) only [go_sem, get_miss, seval, reduceCtorEq, eq_self_iff_true, decide_true, decide_false, Bool.not_true, Bool.not_false, beq_self_eq_true, bne_self_eq_false] <;> with_reducible rfl)); (case ha => (simp (disch := first | omega | (simp only [go_sem]; omega)) only [go_sem, get_miss, seval, reduceCtorEq, eq_self_iff_true, decide_true, decide_false, Bool.not_true, Bool.not_false, beq_self_eq_true, bne_self_eq_false] <;> with_reducible rfl)); (case he => (simp only [go_sem] <;> with_reducible rfl)); (case hcl => (simp)); (case hf => (simp only [go_sem] <;> with_reducible rfl)))
      | (apply aL_pure cxG (ht); (case hg => (simp (disch := first | omega | (simp only [go_sem]; omega)) only [go_sem, get_miss, seval, reduceCtorEq, eq_self_iff_true, decide_true, decide_false, Bool.not_true, Bool.not_false, beq_self_eq_true, bne_self_eq_false])); (case hx => (simp (disch := first | omega | (simp only [go_sem]; omega)) only [go_sem, get_miss, seval, reduceCtorEq, eq_self_iff_true, decide_true, decide_false, Bool.not_true, Bool.not_false, beq_self_eq_true, bne_self_eq_false] <;> with_reducible rfl)); (case ha => (simp (disch := first | omega | (simp only [go_sem]; omega)) only [go_sem, get_miss, seval, reduceCtorEq, eq_self_iff_true, decide_true, decide_false, Bool.not_true, Bool.not_false, beq_self_eq_true, bne_self_eq_false] <;> with_reducible rfl)); (case he => (simp only [go_sem] <;> with_reducible rfl)); (case hcl => (simp)); (case hf => (simp only [go_sem] <;> with_reducible rfl)))
      | fail)
    refine aC_regB (U := [(some 19, some 18)]) rfl [(some 17, 0), (some 19, 0)] ?_
    repeat' (first
      | refine aLB_nil ?_
      | (apply aLB_step; (· exact True.intro); (· exact (by intro h; cases h)); (· rfl); (· simp (disch := first | omega | (simp only [go_sem]; omega)) only [go_sem, get_miss, seval, reduceCtorEq]); (· simp (disch := first | omega | (simp only [go_sem]; omega)) only [go_sem, get_miss, seval, reduceCtorEq] <;> with_reducible rfl); (· simp only [go_sem] <;> with_reducible rfl); (· (intro b hb; first | (cases hb; done) | (simp (disch := first | omega | (simp only [go_sem]; omega)) only [loadBox, go_sem, get_miss, seval, reduceCtorEq] at hb; (try injection hb with hb); subst hb; simp))))
      | (apply aLB_write; (· exact True.intro); (· rfl); (· rfl); (· simp (disch := first | omega | (simp only [go_sem]; omega)) only [go_sem, get_miss, seval, reduceCtorEq]); (· simp (disch := first | omega | (simp only [go_sem]; omega)) only [go_sem, get_miss, seval, reduceCtorEq] <;> with_reducible rfl); (· simp only [go_sem] <;> with_reducible rfl); (· simp))
      | (refine aLB_skip ?_ (by simp only [go_sem] <;> with_reducible rfl) ?_; (· simp (disch := first | omega | (simp only [go_sem]; omega)) only [go_sem, get_miss, seval, reduceCtorEq]))
      | (apply aLB_pure cxG (hm); (case hg => (simp (disch := first | omega | (simp only [go_sem]; omega)) only [go_sem, get_miss, seval, reduceCtorEq])); (case hx => (simp (disch := first | omega | (simp only [go_sem]; omega)) only [go_sem, get_miss, seval, reduceCtorEq] <;> with_reducible rfl)); (case ha => (simp (disch := first | omega | (simp only [go_sem]; omega)) only [go_sem, get_miss, seval, reduceCtorEq] <;> with_reducible rfl)); (case he => (simp only [go_sem] <;> with_reducible rfl)); (case hcl => (simp)); (case hf => (simp only [go_sem] <;> with_reducible rfl)))
      | (apply aLB_pure cxG (hr); (case hg => (simp (disch := first | omega | (simp only [go_sem]; omega)) only [go_sem, get_miss, seval, reduceCtorEq])); (case hx => (simp (disch := first | omega | (simp only [go_sem]; omega)) only [go_sem, get_miss, seval, reduceCtorEq] <;> with_reducible rfl)); (case ha => (simp (disch := first | omega | (simp only [go_sem]; omega)) only [go_sem, get_miss, seval, reduceCtorEq] <;> with_reducible rfl)); (case he => (simp only [go_sem] <;> with_reducible rfl)); (case hcl => (simp)); (case hf => (simp only [go_sem] <;> with_reducible rfl)))
      | fail)
    repeat' (first
      | refine aC_seq ?_
      | refine aC_reg rfl ?_
      | refine aC_block ?_
      | refine aC_skip ?_
      | refine aC_loop ?_
      | refine aC_scope ?_
      | refine scopeQ_normal ?_
      | refine scopeQ_exit ?_
      | refine scopeQ_ret ?_
      | refine aC_exit ?_
      | refine aC_ret ?_
      | refine thenQ_normal ?_
      | refine blockQ_normal ?_
      | refine thenQ_ret ?_
      | refine blockQ_ret ?_
      | refine thenQ_exit ?_
      | refine blockQ_hit ?_
      | refine blockQ_miss rfl ?_
      | refine aL_nil ?_
      | (apply aL_step; (· exact True.intro); (· simp (disch := first | omega | (simp only [go_sem]; omega)) only [go_sem, get_miss, seval, reduceCtorEq, eq_self_iff_true, decide_true, decide_false, Bool.not_true, Bool.not_false, beq_self_eq_true, bne_self_eq_false, not_true_eq_false, not_false_eq_true]); (· simp (disch := first | omega | (simp only [go_sem]; omega)) only [go_sem, get_miss, seval, reduceCtorEq, eq_self_iff_true, decide_true, decide_false, Bool.not_true, Bool.not_false, beq_self_eq_true, bne_self_eq_false, not_true_eq_false, not_false_eq_true] <;> with_reducible rfl); (· simp only [go_sem] <;> with_reducible rfl))
      | (refine aL_skip ?_ (by simp only [go_sem] <;> with_reducible rfl) ?_; (· simp (disch := first | omega | (simp only [go_sem]; omega)) only [go_sem, get_miss, seval, reduceCtorEq, eq_self_iff_true, decide_true, decide_false, Bool.not_true, Bool.not_false, beq_self_eq_true, bne_self_eq_false, not_true_eq_false, not_false_eq_true]))
      | (apply aL_guardN; (· simp (disch := first | omega | (simp only [go_sem]; omega)) only [go_sem, get_miss, seval, reduceCtorEq, eq_self_iff_true, decide_true, decide_false, Bool.not_true, Bool.not_false, beq_self_eq_true, bne_self_eq_false, not_true_eq_false, not_false_eq_true] <;> with_reducible rfl); all_goals (intro h; first | (exfalso; omega) | (simp only [h, decide_true, decide_false, not_true, not_false_iff])))
      | (apply aL_guardP; (· simp (disch := first | omega | (simp only [go_sem]; omega)) only [go_sem, get_miss, seval, reduceCtorEq, eq_self_iff_true, decide_true, decide_false, Bool.not_true, Bool.not_false, beq_self_eq_true, bne_self_eq_false, not_true_eq_false, not_false_eq_true] <;> with_reducible rfl); all_goals (intro h; first | (exfalso; omega) | (simp only [h, decide_true, decide_false, not_true, not_false_iff])))
      | (refine aC_condT ?_ ?_; (· simp (disch := first | omega | (simp only [go_sem]; omega)) only [go_sem, get_miss, seval, reduceCtorEq, eq_self_iff_true, decide_true, decide_false, Bool.not_true, Bool.not_false, beq_self_eq_true, bne_self_eq_false, not_true_eq_false, not_false_eq_true]))
      | (refine aC_condF ?_ ?_; (· simp (disch := first | omega | (simp only [go_sem]; omega)) only [go_sem, get_miss, seval, reduceCtorEq, eq_self_iff_true, decide_true, decide_false, Bool.not_true, Bool.not_false, beq_self_eq_true, bne_self_eq_false, not_true_eq_false, not_false_eq_true]))
      | (refine aC_condP (by simp (disch := first | omega | (simp only [go_sem]; omega)) only [go_sem, get_miss, seval, reduceCtorEq, eq_self_iff_true, decide_true, decide_false, Bool.not_true, Bool.not_false, beq_self_eq_true, bne_self_eq_false, not_true_eq_false, not_false_eq_true] <;> with_reducible rfl) ?_ ?_ <;> (intro h; first | (exfalso; omega) | skip))
      | (apply aL_pure cxG (hr); (case hg => (simp (disch := first | omega | (simp only [go_sem]; omega)) only [go_sem, get_miss, seval, reduceCtorEq, eq_self_iff_true, decide_true, decide_false, Bool.not_true, Bool.not_false, beq_self_eq_true, bne_self_eq_false, not_true_eq_false, not_false_eq_true])); (case hx => (simp (disch := first | omega | (simp only [go_sem]; omega)) only [go_sem, get_miss, seval, reduceCtorEq, eq_self_iff_true, decide_true, decide_false, Bool.not_true, Bool.not_false, beq_self_eq_true, bne_self_eq_false, not_true_eq_false, not_false_eq_true] <;> with_reducible rfl)); (case ha => (simp (disch := first | omega | (simp only [go_sem]; omega)) only [go_sem, get_miss, seval, reduceCtorEq, eq_self_iff_true, decide_true, decide_false, Bool.not_true, Bool.not_false, beq_self_eq_true, bne_self_eq_false, not_true_eq_false, not_false_eq_true] <;> with_reducible rfl)); (case he => (simp only [go_sem] <;> with_reducible rfl)); (case hcl => (simp)); (case hf => (simp only [go_sem] <;> with_reducible rfl)))
      | (apply aL_pure cxG (n0); (case hg => (simp (disch := first | omega | (simp only [go_sem]; omega)) only [go_sem, get_miss, seval, reduceCtorEq, eq_self_iff_true, decide_true, decide_false, Bool.not_true, Bool.not_false, beq_self_eq_true, bne_self_eq_false, not_true_eq_false, not_false_eq_true])); (case hx => (simp (disch := first | omega | (simp only [go_sem]; omega)) only [go_sem, get_miss, seval, reduceCtorEq, eq_self_iff_true, decide_true, decide_false, Bool.not_true, Bool.not_false, beq_self_eq_true, bne_self_eq_false, not_true_eq_false, not_false_eq_true] <;> with_reducible rfl)); (case ha => (simp (disch := first | omega | (simp only [go_sem]; omega)) only [go_sem, get_miss, seval, reduceCtorEq, eq_self_iff_true, decide_true, decide_false, Bool.not_true, Bool.not_false, beq_self_eq_true, bne_self_eq_false, not_true_eq_false, not_false_eq_true] <;> with_reducible rfl)); (case he => (simp only [go_sem] <;> with_reducible rfl)); (case hcl => (simp)); (case hf => (simp only [go_sem] <;> with_reducible rfl)))
      | (apply aL_pure cxG (n2); (case hg => (simp (disch := first | omega | (simp only [go_sem]; omega)) only [go_sem, get_miss, seval, reduceCtorEq, eq_self_iff_true, decide_true, decide_false, Bool.not_true, Bool.not_false, beq_self_eq_true, bne_self_eq_false, not_true_eq_false, not_false_eq_true])); (case hx => (simp (disch := first | omega | (simp only [go_sem]; omega)) only [go_sem, get_miss, seval, reduceCtorEq, eq_self_iff_true, decide_true, decide_false, Bool.not_true, Bool.not_false, beq_self_eq_true, bne_self_eq_false, not_true_eq_false, not_false_eq_true] <;> with_reducible rfl)); (case ha => (simp (disch := first | omega | (simp only [go_sem]; omega)) only [go_sem, get_miss, seval, reduceCtorEq, eq_self_iff_true, decide_true, decide_false, Bool.not_true, Bool.not_false, beq_self_eq_true, bne_self_eq_false, not_true_eq_false, not_false_eq_true] <;> with_reducible rfl)); (case he => (simp only [go_sem] <;> with_reducible rfl)); (case hcl => (simp)); (case hf => (simp only [go_sem] <;> with_reducible rfl)))
      | (apply aL_pure cxG (call_known); (case hg => (simp (disch := first | omega | (simp only [go_sem]; omega)) only [go_sem, get_miss, seval, reduceCtorEq, eq_self_iff_true, decide_true, decide_false, Bool.not_true, Bool.not_false, beq_self_eq_true, bne_self_eq_false, not_true_eq_false, not_false_eq_true])); (case hx => (simp (disch := first | omega | (simp only [go_sem]; omega)) only [go_sem, get_miss, seval, reduceCtorEq, eq_self_iff_true, decide_true, decide_false, Bool.not_true, Bool.not_false, beq_self_eq_true, bne_self_eq_false, not_true_eq_false, not_false_eq_true] <;> with_reducible rfl)); (case ha => (simp (disch := first | omega | (simp only [go_sem]; omega)) only [go_sem, get_miss, seval, reduceCtorEq, eq_self_iff_true, decide_true, decide_false, Bool.not_true, Bool.not_false, beq_self_eq_true, bne_self_eq_false, not_true_eq_false, not_false_eq_true] <;> with_reducible rfl)); (case he => (simp only [go_sem] <;> with_reducible rfl)); (case hcl => (simp)); (case hf => (simp only [go_sem] <;> with_reducible rfl)))
      | fail)
    all_goals try (first | exact True.intro | exact not_false | omega)
    all_goals try (simp (disch := first | omega | (simp only [go_sem]; omega)) only [go_sem, get_miss, seval, reduceCtorEq] <;> first | exact True.intro | omega)
    all_goals (clear hb ht hm hr n0 n2)
    all_goals try (simp (disch := first | omega | (simp only [go_sem]; omega)) only [go_sem, get_miss, seval, reduceCtorEq])
    all_goals try simp
  case pos =>
  have hb2 := ref_Bytes op.toNat (by have := h.1; omega) (by have := h.1; omega) xs hx hw
  rw [Int.toNat_of_nonneg (by have := h.1; omega)] at hb2
  have ht2 := ref_Text op xs hx hw h.1
  have hbl := cbyX_len op.toNat xs
  have hs := ref_same false false (cbyX op.toNat xs) (cbyX op.toNat xs) (by omega) (by omega)
  rw [decide_eq_true rfl] at hs
  rw [if_pos h] at hb ht
  rw [decide_eq_true h] at hm hr
  clear h
  generalize cbyX op.toNat xs = B at *
  generalize ctx op xs = X at *
  refine pure_fn cxOk Tryd.func4 (by kernel_rfl) (fun _ => false) (fe4.q) (by kernel_rfl) (Nat.le_of_ble_eq_true (by kernel_rfl)) ?_
  dsimp only [LB, Tryd.f4, lite, nextOf, Option.isNone, Bool.not_true, Bool.not_false, Bool.and_true, Bool.true_and, Bool.false_and, Bool.and_self, Bool.false_eq_true, if_false, if_true, ↓reduceIte, liteO, List.map, Option.map, frame0, List.zipIdx, Nat.reduceAdd]
  try simp only [List.getElem?_toArray, List.getElem?_cons_succ, List.getElem?_cons_zero, Option.bind_some]
  repeat' (first
    | refine aC_seq ?_
    | refine aC_reg rfl ?_
    | refine aC_block ?_
    | refine aC_skip ?_
    | refine aC_loop ?_
    | refine aC_scope ?_
    | refine scopeQ_normal ?_
    | refine scopeQ_exit ?_
    | refine scopeQ_ret ?_
    | refine aC_exit ?_
    | refine aC_ret ?_
    | refine thenQ_normal ?_
    | refine blockQ_normal ?_
    | refine thenQ_ret ?_
    | refine blockQ_ret ?_
    | refine thenQ_exit ?_
    | refine blockQ_hit ?_
    | refine blockQ_miss rfl ?_
    | refine aL_nil ?_
    | (apply aL_step; (· exact True.intro); (· simp (disch := first | omega | (simp only [go_sem]; omega)) only [go_sem, get_miss, seval, reduceCtorEq, eq_self_iff_true, decide_true, decide_false, Bool.not_true, Bool.not_false, beq_self_eq_true, bne_self_eq_false]); (· simp (disch := first | omega | (simp only [go_sem]; omega)) only [go_sem, get_miss, seval, reduceCtorEq, eq_self_iff_true, decide_true, decide_false, Bool.not_true, Bool.not_false, beq_self_eq_true, bne_self_eq_false] <;> with_reducible rfl); (· simp only [go_sem] <;> with_reducible rfl))
    | (refine aL_skip ?_ (by simp only [go_sem] <;> with_reducible rfl) ?_; (· simp (disch := first | omega | (simp only [go_sem]; omega)) only [go_sem, get_miss, seval, reduceCtorEq, eq_self_iff_true, decide_true, decide_false, Bool.not_true, Bool.not_false, beq_self_eq_true, bne_self_eq_false]))
    | (apply aL_guardN; (· simp (disch := first | omega | (simp only [go_sem]; omega)) only [go_sem, get_miss, seval, reduceCtorEq, eq_self_iff_true, decide_true, decide_false, Bool.not_true, Bool.not_false, beq_self_eq_true, bne_self_eq_false] <;> with_reducible rfl); all_goals (intro h; first | (exfalso; omega) | (simp only [h, decide_true, decide_false, not_true, not_false_iff])))
    | (apply aL_guardP; (· simp (disch := first | omega | (simp only [go_sem]; omega)) only [go_sem, get_miss, seval, reduceCtorEq, eq_self_iff_true, decide_true, decide_false, Bool.not_true, Bool.not_false, beq_self_eq_true, bne_self_eq_false] <;> with_reducible rfl); all_goals (intro h; first | (exfalso; omega) | (simp only [h, decide_true, decide_false, not_true, not_false_iff])))
    | (refine aC_condT ?_ ?_; (· simp (disch := first | omega | (simp only [go_sem]; omega)) only [go_sem, get_miss, seval, reduceCtorEq, eq_self_iff_true, decide_true, decide_false, Bool.not_true, Bool.not_false, beq_self_eq_true, bne_self_eq_false]))
    | (refine aC_condF ?_ ?_; (· simp (disch := first | omega | (simp only [go_sem]; omega)) only [go_sem, get_miss, seval, reduceCtorEq, eq_self_iff_true, decide_true, decide_false, Bool.not_true, Bool.not_false, beq_self_eq_true, bne_self_eq_false]))
    | (refine aC_condP (by simp (disch := first | omega | (simp only [go_sem]; omega)) only [go_sem, get_miss, seval, reduceCtorEq, eq_self_iff_true, decide_true, decide_false, Bool.not_true, Bool.not_false, beq_self_eq_true, bne_self_eq_false] <;> with_reducible rfl) ?_ ?_ <;> (intro h; first | (exfalso; omega) | skip))
    | (apply aL_pure cxG (hb); (case hg => (simp (disch := first | omega | (simp only [go_sem]; omega)) only [go_sem, get_miss, seval, reduceCtorEq, eq_self_iff_true, decide_true, decide_false, Bool.not_true, Bool.not_false, beq_self_eq_true, bne_self_eq_false])); (case hx => (simp (disch := first | omega | (simp only [go_sem]; omega)) only [go_sem, get_miss, seval, reduceCtorEq, eq_self_iff_true, decide_true, decide_false, Bool.not_true, Bool.not_false, beq_self_eq_true, bne_self_eq_false] <;> with_reducible rfl)); (case ha => (simp (disch := first | omega | (simp only [go_sem]; omega)) only [go_sem, get_miss, seval, reduceCtorEq, eq_self_iff_true, decide_true, decide_false, Bool.not_true, Bool.not_false, beq_self_eq_true, bne_self_eq_false] <;> with_reducible rfl)); (case he => (simp only [go_sem] <;> with_reducible rfl)); (case hcl => (simp)); (case hf => (simp only [go_sem] <;> with_reducible rfl)))
    | (apply aL_pure cxG (ht); (case hg => (simp (disch := first | omega | (simp only [go_sem]; omega)) only [go_sem, get_miss, seval, reduceCtorEq, eq_self_iff_true, decide_true, decide_false, Bool.not_true, Bool.not_false, beq_self_eq_true, bne_self_eq_false])); (case hx => (simp (disch := first | omega | (simp only [go_sem]; omega)) only [go_sem, get_miss, seval, reduceCtorEq, eq_self_iff_true, decide_true, decide_false, Bool.not_true, Bool.not_false, beq_self_eq_true, bne_self_eq_false] <;> with_reducible rfl)); (case ha => (simp (disch := first | omega | (simp only [go_sem]; omega)) only [go_sem, get_miss, seval, reduceCtorEq, eq_self_iff_true, decide_true, decide_false, Bool.not_true, Bool.not_false, beq_self_eq_true, bne_self_eq_false] <;> with_reducible rfl)); (case he => (simp only [go_sem] <;> with_reducible rfl)); (case hcl => (simp)); (case hf => (simp only [go_sem] <;> with_reducible rfl)))
    | fail)
  refine aC_regB (U := [(some 19, some 18)]) rfl [(some 17, 0), (some 19, 0)] ?_
  repeat' (first
    | refine aLB_nil ?_
    | (apply aLB_step; (· exact True.intro); (· exact (by intro h; cases h)); (· rfl); (· simp (disch := first | omega | (simp only [go_sem]; omega)) only [go_sem, get_miss, seval, reduceCtorEq]); (· simp (disch := first | omega | (simp only [go_sem]; omega)) only [go_sem, get_miss, seval, reduceCtorEq] <;> with_reducible rfl); (· simp only [go_sem] <;> with_reducible rfl); (· (intro b hb; first | (cases hb; done) | (simp (disch := first | omega | (simp only [go_sem]; omega)) only [loadBox, go_sem, get_miss, seval, reduceCtorEq] at hb; (try injection hb with hb); subst hb; simp))))
    | (apply aLB_write; (· exact True.intro); (· rfl); (· rfl); (· simp (disch := first | omega | (simp only [go_sem]; omega)) only [go_sem, get_miss, seval, reduceCtorEq]); (· simp (disch := first | omega | (simp only [go_sem]; omega)) only [go_sem, get_miss, seval, reduceCtorEq] <;> with_reducible rfl); (· simp only [go_sem] <;> with_reducible rfl); (· simp))
    | (refine aLB_skip ?_ (by simp only [go_sem] <;> with_reducible rfl) ?_; (· simp (disch := first | omega | (simp only [go_sem]; omega)) only [go_sem, get_miss, seval, reduceCtorEq]))
    | (apply aLB_pure cxG (hm); (case hg => (simp (disch := first | omega | (simp only [go_sem]; omega)) only [go_sem, get_miss, seval, reduceCtorEq])); (case hx => (simp (disch := first | omega | (simp only [go_sem]; omega)) only [go_sem, get_miss, seval, reduceCtorEq] <;> with_reducible rfl)); (case ha => (simp (disch := first | omega | (simp only [go_sem]; omega)) only [go_sem, get_miss, seval, reduceCtorEq] <;> with_reducible rfl)); (case he => (simp only [go_sem] <;> with_reducible rfl)); (case hcl => (simp)); (case hf => (simp only [go_sem] <;> with_reducible rfl)))
    | (apply aLB_pure cxG (hr); (case hg => (simp (disch := first | omega | (simp only [go_sem]; omega)) only [go_sem, get_miss, seval, reduceCtorEq])); (case hx => (simp (disch := first | omega | (simp only [go_sem]; omega)) only [go_sem, get_miss, seval, reduceCtorEq] <;> with_reducible rfl)); (case ha => (simp (disch := first | omega | (simp only [go_sem]; omega)) only [go_sem, get_miss, seval, reduceCtorEq] <;> with_reducible rfl)); (case he => (simp only [go_sem] <;> with_reducible rfl)); (case hcl => (simp)); (case hf => (simp only [go_sem] <;> with_reducible rfl)))
    | fail)
  repeat' (first
    | refine aC_seq ?_
    | refine aC_reg rfl ?_
    | refine aC_block ?_
    | refine aC_skip ?_
    | refine aC_loop ?_
    | refine aC_scope ?_
    | refine scopeQ_normal ?_
    | refine scopeQ_exit ?_
    | refine scopeQ_ret ?_
    | refine aC_exit ?_
    | refine aC_ret ?_
    | refine thenQ_normal ?_
    | refine blockQ_normal ?_
    | refine thenQ_ret ?_
    | refine blockQ_ret ?_
    | refine thenQ_exit ?_
    | refine blockQ_hit ?_
    | refine blockQ_miss rfl ?_
    | refine aL_nil ?_
    | (apply aL_step; (· exact True.intro); (· simp (disch := first | omega | (simp only [go_sem]; omega)) only [go_sem, get_miss, seval, reduceCtorEq, eq_self_iff_true, decide_true, decide_false, Bool.not_true, Bool.not_false, beq_self_eq_true, bne_self_eq_false, not_true_eq_false, not_false_eq_true]); (· simp (disch := first | omega | (simp only [go_sem]; omega)) only [go_sem, get_miss, seval, reduceCtorEq, eq_self_iff_true, decide_true, decide_false, Bool.not_true, Bool.not_false, beq_self_eq_true, bne_self_eq_false, not_true_eq_false, not_false_eq_true] <;> with_reducible rfl); (· simp only [go_sem] <;> with_reducible rfl))
    | (refine aL_skip ?_ (by simp only [go_sem] <;> with_reducible rfl) ?_; (· simp (disch := first | omega | (simp only [go_sem]; omega)) only [go_sem, get_miss, seval, reduceCtorEq, eq_self_iff_true, decide_true, decide_false, Bool.not_true, Bool.not_false, beq_self_eq_true, bne_self_eq_false, not_true_eq_false, not_false_eq_true]))
    | (apply aL_guardN; (· simp (disch := first | omega | (simp only [go_sem]; omega)) only [go_sem, get_miss, seval, reduceCtorEq, eq_self_iff_true, decide_true, decide_false, Bool.not_true, Bool.not_false, beq_self_eq_true, bne_self_eq_false, not_true_eq_false, not_false_eq_true] <;> with_reducible rfl); all_goals (intro h; first | (exfalso; omega) | (simp only [h, decide_true, decide_false, not_true, not_false_iff])))
    | (apply aL_guardP; (· simp (disch := first | omega | (simp only [go_sem]; omega)) only [go_sem, get_miss, seval, reduceCtorEq, eq_self_iff_true, decide_true, decide_false, Bool.not_true, Bool.not_false, beq_self_eq_true, bne_self_eq_false, not_true_eq_false, not_false_eq_true] <;> with_reducible rfl); all_goals (intro h; first | (exfalso; omega) | (simp only [h, decide_true, decide_false, not_true, not_false_iff])))
    | (refine aC_condT ?_ ?_; (· simp (disch := first | omega | (simp only [go_sem]; omega)) only [go_sem, get_miss, seval, reduceCtorEq, eq_self_iff_true, decide_true, decide_false, Bool.not_true, Bool.not_false, beq_self_eq_true, bne_self_eq_false, not_true_eq_false, not_false_eq_true]))
    | (refine aC_condF ?_ ?_; (· simp (disch := first | omega | (simp only [go_sem]; omega)) only [go_sem, get_miss, seval, reduceCtorEq, eq_self_iff_true, decide_true, decide_false, Bool.not_true, Bool.not_false, beq_self_eq_true, bne_self_eq_false, not_true_eq_false, not_false_eq_true]))
    | (refine aC_condP (by simp (disch := first | omega | (simp only [go_sem]; omega)) only [go_sem, get_miss, seval, reduceCtorEq, eq_self_iff_true, decide_true, decide_false, Bool.not_true, Bool.not_false, beq_self_eq_true, bne_self_eq_false, not_true_eq_false, not_false_eq_true] <;> with_reducible rfl) ?_ ?_ <;> (intro h; first | (exfalso; omega) | skip))
    | (apply aL_pure cxG (hr); (case hg => (simp (disch := first | omega | (simp only [go_sem]; omega)) only [go_sem, get_miss, seval, reduceCtorEq, eq_self_iff_true, decide_true, decide_false, Bool.not_true, Bool.not_false, beq_self_eq_true, bne_self_eq_false, not_true_eq_false, not_false_eq_true])); (case hx => (simp (disch := first | omega | (simp only [go_sem]; omega)) only [go_sem, get_miss, seval, reduceCtorEq, eq_self_iff_true, decide_true, decide_false, Bool.not_true, Bool.not_false, beq_self_eq_true, bne_self_eq_false, not_true_eq_false, not_false_eq_true] <;> with_reducible rfl)); (case ha => (simp (disch := first | omega | (simp only [go_sem]; omega)) only [go_sem, get_miss, seval, reduceCtorEq, eq_self_iff_true, decide_true, decide_false, Bool.not_true, Bool.not_false, beq_self_eq_true, bne_self_eq_false, not_true_eq_false, not_false_eq_true] <;> with_reducible rfl)); (case he => (simp only [go_sem] <;> with_reducible rfl)); (case hcl => (simp)); (case hf => (simp only [go_sem] <;> with_reducible rfl)))
    | (apply aL_pure cxG (n0); (case hg => (simp (disch := first | omega | (simp only [go_sem]; omega)) only [go_sem, get_miss, seval, reduceCtorEq, eq_self_iff_true, decide_true, decide_false, Bool.not_true, Bool.not_false, beq_self_eq_true, bne_self_eq_false, not_true_eq_false, not_false_eq_true])); (case hx => (simp (disch := first | omega | (simp only [go_sem]; omega)) only [go_sem, get_miss, seval, reduceCtorEq, eq_self_iff_true, decide_true, decide_false, Bool.not_true, Bool.not_false, beq_self_eq_true, bne_self_eq_false, not_true_eq_false, not_false_eq_true] <;> with_reducible rfl)); (case ha => (simp (disch := first | omega | (simp only [go_sem]; omega)) only [go_sem, get_miss, seval, reduceCtorEq, eq_self_iff_true, decide_true, decide_false, Bool.not_true, Bool.not_false, beq_self_eq_true, bne_self_eq_false, not_true_eq_false, not_false_eq_true] <;> with_reducible rfl)); (case he => (simp only [go_sem] <;> with_reducible rfl)); (case hcl => (simp)); (case hf => (simp only [go_sem] <;> with_reducible rfl)))
    | (apply aL_pure cxG (hb2); (case hg => (simp (disch := first | omega | (simp only [go_sem]; omega)) only [go_sem, get_miss, seval, reduceCtorEq, eq_self_iff_true, decide_true, decide_false, Bool.not_true, Bool.not_false, beq_self_eq_true, bne_self_eq_false, not_true_eq_false, not_false_eq_true])); (case hx => (simp (disch := first | omega | (simp only [go_sem]; omega)) only [go_sem, get_miss, seval, reduceCtorEq, eq_self_iff_true, decide_true, decide_false, Bool.not_true, Bool.not_false, beq_self_eq_true, bne_self_eq_false, not_true_eq_false, not_false_eq_true] <;> with_reducible rfl)); (case ha => (simp (disch := first | omega | (simp only [go_sem]; omega)) only [go_sem, get_miss, seval, reduceCtorEq, eq_self_iff_true, decide_true, decide_false, Bool.not_true, Bool.not_false, beq_self_eq_true, bne_self_eq_false, not_true_eq_false, not_false_eq_true] <;> with_reducible rfl)); (case he => (simp only [go_sem] <;> with_reducible rfl)); (case hcl => (simp)); (case hf => (simp only [go_sem] <;> with_reducible rfl)))
    | (apply aL_pure cxG (ht2); (case hg => (simp (disch := first | omega | (simp only [go_sem]; omega)) only [go_sem, get_miss, seval, reduceCtorEq, eq_self_iff_true, decide_true, decide_false, Bool.not_true, Bool.not_false, beq_self_eq_true, bne_self_eq_false, not_true_eq_false, not_false_eq_true])); (case hx => (simp (disch := first | omega | (simp only [go_sem]; omega)) only [go_sem, get_miss, seval, reduceCtorEq, eq_self_iff_true, decide_true, decide_false, Bool.not_true, Bool.not_false, beq_self_eq_true, bne_self_eq_false, not_true_eq_false, not_false_eq_true] <;> with_reducible rfl)); (case ha => (simp (disch := first | omega | (simp only [go_sem]; omega)) only [go_sem, get_miss, seval, reduceCtorEq, eq_self_iff_true, decide_true, decide_false, Bool.not_true, Bool.not_false, beq_self_eq_true, bne_self_eq_false, not_true_eq_false, not_false_eq_true] <;> with_reducible rfl)); (case he => (simp only [go_sem] <;> with_reducible rfl)); (case hcl => (simp)); (case hf => (simp only [go_sem] <;> with_reducible rfl)))
    | (apply aL_pure cxG (hs); (case hg => (simp (disch := first | omega | (simp only [go_sem]; omega)) only [go_sem, get_miss, seval, reduceCtorEq, eq_self_iff_true, decide_true, decide_false, Bool.not_true, Bool.not_false, beq_self_eq_true, bne_self_eq_false, not_true_eq_false, not_false_eq_true])); (case hx => (simp (disch := first | omega | (simp only [go_sem]; omega)) only [go_sem, get_miss, seval, reduceCtorEq, eq_self_iff_true, decide_true, decide_false, Bool.not_true, Bool.not_false, beq_self_eq_true, bne_self_eq_false, not_true_eq_false, not_false_eq_true] <;> with_reducible rfl)); (case ha => (simp (disch := first | omega | (simp only [go_sem]; omega)) only [go_sem, get_miss, seval, reduceCtorEq, eq_self_iff_true, decide_true, decide_false, Bool.not_true, Bool.not_false, beq_self_eq_true, bne_self_eq_false, not_true_eq_false, not_false_eq_true] <;> with_reducible rfl)); (case he => (simp only [go_sem] <;> with_reducible rfl)); (case hcl => (simp)); (case hf => (simp only [go_sem] <;> with_reducible rfl)))
    | (apply aL_pure cxG (call_known); (case hg => (simp (disch := first | omega | (simp only [go_sem]; omega)) only [go_sem, get_miss, seval, reduceCtorEq, eq_self_iff_true, decide_true, decide_false, Bool.not_true, Bool.not_false, beq_self_eq_true, bne_self_eq_false, not_true_eq_false, not_false_eq_true])); (case hx => (simp (disch := first | omega | (simp only [go_sem]; omega)) only [go_sem, get_miss, seval, reduceCtorEq, eq_self_iff_true, decide_true, decide_false, Bool.not_true, Bool.not_false, beq_self_eq_true, bne_self_eq_false, not_true_eq_false, not_false_eq_true] <;> with_reducible rfl)); (case ha => (simp (disch := first | omega | (simp only [go_sem]; omega)) only [go_sem, get_miss, seval, reduceCtorEq, eq_self_iff_true, decide_true, decide_false, Bool.not_true, Bool.not_false, beq_self_eq_true, bne_self_eq_false, not_true_eq_false, not_false_eq_true] <;> with_reducible rfl)); (case he => (simp only [go_sem] <;> with_reducible rfl)); (case hcl => (simp)); (case hf => (simp only [go_sem] <;> with_reducible rfl)))
    | fail)
  all_goals try (first | exact True.intro | exact not_false | omega)
  all_goals try (simp (disch := first | omega | (simp only [go_sem]; omega)) only [go_sem, get_miss, seval, reduceCtorEq] <;> first | exact True.intro | omega)
  all_goals (clear hb ht hm hr n0 n2 hb2 ht2 hs)
  all_goals try (simp (disch := first | omega | (simp only [go_sem]; omega)) only [go_sem, get_miss, seval, reduceCtorEq])
  all_goals try simp

end
end Go.Am
