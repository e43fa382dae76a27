/- CallTells, CallReads: the walks of the laws. -/
import Derived.Test.YtikookfljnilpaaDoorL05
import Derived.Test.YtikookfljnilpaaDoorL12
import Derived.Test.YtikookfljnilpaaDoorL13
set_option linter.unusedVariables false
set_option linter.unusedSimpArgs false
namespace Go.Am
open Go Go.Proofs
set_option linter.unusedSimpArgs false
set_option linter.unusedVariables false
set_option maxHeartbeats 8000000
set_option maxRecDepth 100000
section
attribute [local irreducible] aC aL thenQ blockQ scopeQ ALoop AWp

theorem law_reads (nl : Bool) (b : List UInt8) (s : List UInt8) (hbl : b.length ≤ 9223372036854775807) (hsl : s.length ≤ 9223372036854775807) :
    APure cx 5 [.sl 1 nl (bl b) .any, .str s] (.bool true) := by
  have hn0 := law_num 0
  have hn4 := law_num 4
  by_cases hh : b.length ≤ 9000 ∧ s.length ≤ 9000
  case neg =>
    have hh' : 9000 < b.length ∨ (b.length ≤ 9000 ∧ 9000 < s.length) := by omega
    have hk := call_known
    rcases hh' with h1 | ⟨h1, h2⟩
    all_goals
    refine pure_fn cxOk Tryd.func5 (by kernel_rfl) (fun _ => false) (fun _ => none) (by kernel_rfl) (Nat.le_of_ble_eq_true (by kernel_rfl)) ?_
    dsimp only [LB, Tryd.f5, lite, nextOf, Option.isNone, Bool.not_true, Bool.not_false, Bool.and_true, Bool.true_and, Bool.false_and, Bool.and_self, Bool.false_eq_true, if_false, if_true, ↓reduceIte, liteO, List.map, Option.map, frame0, List.zipIdx, Nat.reduceAdd]
    try simp only [List.getElem?_toArray, List.getElem?_cons_succ, List.getElem?_cons_zero, Option.bind_some]
    repeat' (first
      | refine aC_seq ?_
      | refine aC_reg rfl ?_
      | refine aC_block ?_
      | refine aC_skip ?_
      | refine aC_loop ?_
      | refine aC_scope ?_
      | refine scopeQ_normal ?_
      | refine scopeQ_exit ?_
      | refine scopeQ_ret ?_
      | refine aC_exit ?_
      | refine aC_ret ?_
      | refine thenQ_normal ?_
      | refine blockQ_normal ?_
      | refine thenQ_ret ?_
      | refine blockQ_ret ?_
      | refine thenQ_exit ?_
      | refine blockQ_hit ?_
      | refine blockQ_miss rfl ?_
      | refine aL_nil ?_
      | (apply aL_step; (· exact True.intro); (· simp (disch := first | omega | (simp only [go_sem]; omega)) only [go_sem, get_miss, seval, reduceCtorEq]); (· simp (disch := first | omega | (simp only [go_sem]; omega)) only [go_sem, get_miss, seval, reduceCtorEq] <;> with_reducible rfl); (· simp only [go_sem] <;> with_reducible rfl))
      | (refine aL_skip ?_ (by simp only [go_sem] <;> with_reducible rfl) ?_; (· simp (disch := first | omega | (simp only [go_sem]; omega)) only [go_sem, get_miss, seval, reduceCtorEq]))
      | (apply aL_guardN; (· simp (disch := first | omega | (simp only [go_sem]; omega)) only [go_sem, get_miss, seval, reduceCtorEq] <;> with_reducible rfl); all_goals (intro h; first | (exfalso; omega) | (simp only [h, decide_true, decide_false, not_true, not_false_iff])))
      | (apply aL_guardP; (· simp (disch := first | omega | (simp only [go_sem]; omega)) only [go_sem, get_miss, seval, reduceCtorEq] <;> with_reducible rfl); all_goals (intro h; first | (exfalso; omega) | (simp only [h, decide_true, decide_false, not_true, not_false_iff])))
      | (refine aC_condT ?_ ?_; (· simp (disch := first | omega | (simp only [go_sem]; omega)) only [go_sem, get_miss, seval, reduceCtorEq]))
      | (refine aC_condF ?_ ?_; (· simp (disch := first | omega | (simp only [go_sem]; omega)) only [go_sem, get_miss, seval, reduceCtorEq]))
      | (refine aC_condP (by simp (disch := first | omega | (simp only [go_sem]; omega)) only [go_sem, get_miss, seval, reduceCtorEq] <;> with_reducible rfl) ?_ ?_ <;> (intro h; first | (exfalso; omega) | skip))
      | (apply aL_pure cxG (hk); (case hg => (simp (disch := first | omega | (simp only [go_sem]; omega)) only [go_sem, get_miss, seval, reduceCtorEq])); (case hx => (simp (disch := first | omega | (simp only [go_sem]; omega)) only [go_sem, get_miss, seval, reduceCtorEq] <;> with_reducible rfl)); (case ha => (simp (disch := first | omega | (simp only [go_sem]; omega)) only [go_sem, get_miss, seval, reduceCtorEq] <;> with_reducible rfl)); (case he => (simp only [go_sem] <;> with_reducible rfl)); (case hcl => (simp)); (case hf => (simp only [go_sem] <;> with_reducible rfl)))
      | fail)
    all_goals try (first | exact True.intro | exact not_false | omega)
    all_goals try (simp (disch := first | omega | (simp only [go_sem]; omega)) only [go_sem, get_miss, seval, reduceCtorEq] <;> first | exact True.intro | omega)
    all_goals try (simp (disch := first | omega | (simp only [go_sem]; omega)) only [go_sem, get_miss, seval, reduceCtorEq])
    all_goals try simp
  case pos =>
  obtain ⟨h1, h2⟩ := hh
  have hk := call_known
  have hu : ∃ (op : Int) (xs : List Nat) (e : Int) (t : Bool), xs.length = 6 ∧ ((t = true ∧ e = 0) ∨ (t = false ∧ e = 4)) ∧
      APure cx 29 [.str s] (.tup [.agg (.int .i64 op :: wl xs), .int .i64 e]) ∧ APure cx 30 [.str s] (.tup [.agg (.int .i64 op :: wl xs), .bool t]) := by
    by_cases h : ∃ op xs, IsCall s op xs
    · obtain ⟨op, xs, h⟩ := h
      exact ⟨op, xs, 0, true, h.2.1, .inl ⟨rfl, rfl⟩, call_Untext s (by omega) _ (.inl ⟨op, xs, h, rfl⟩), ref_Untext s (by omega) _ (.inl ⟨op, xs, h, rfl⟩)⟩
    · have h' : ∀ op xs, ¬ IsCall s op xs := fun op xs k => h ⟨op, xs, k⟩
      exact ⟨0, [0, 0, 0, 0, 0, 0], 4, false, rfl, .inr ⟨rfl, rfl⟩, call_Untext s (by omega) _ (.inr ⟨h', rfl⟩), ref_Untext s (by omega) _ (.inr ⟨h', rfl⟩)⟩
  have hd : ∃ (op : Int) (xs : List Nat) (e : Int) (t : Bool), xs.length = 6 ∧ ((t = true ∧ e = 0) ∨ (t = false ∧ e = 4)) ∧
      APure cx 27 [.sl 1 nl (bl b) .any] (.tup [.agg (.int .i64 op :: wl xs), .int .i64 e]) ∧ APure cx 28 [.sl 1 nl (bl b) .any] (.tup [.agg (.int .i64 op :: wl xs), .bool t]) := by
    have hd1 := call_Of nl b (by omega)
    have hd2 := ref_Of nl b (by omega)
    by_cases h : OfOk b
    · rw [if_pos h] at hd1 hd2
      exact ⟨_, _, 0, true, wds_len b 6 (by decide), .inl ⟨rfl, rfl⟩, hd1, hd2⟩
    · rw [if_neg h] at hd1 hd2
      exact ⟨_, _, 4, false, rfl, .inr ⟨rfl, rfl⟩, hd1, hd2⟩
  obtain ⟨o1, x1, e1, t1, l1, hc1, g1, g2⟩ := hd
  obtain ⟨o2, x2, e2, t2, l2, hc2, g3, g4⟩ := hu
  have q1 := aeqs_wl (a := x1) (b := x1) rfl
  have q2 := aeqs_wl (a := x2) (b := x2) rfl
  have q3 := skbs_wl (a := x1) (b := [0, 0, 0, 0, 0, 0]) l1
  have q4 := skbs_wl (a := x2) (b := [0, 0, 0, 0, 0, 0]) l2
  rw [decide_eq_true rfl] at q1 q2
  rcases hc1 with ⟨rfl, rfl⟩ | ⟨rfl, rfl⟩ <;> rcases hc2 with ⟨rfl, rfl⟩ | ⟨rfl, rfl⟩
  all_goals
  refine pure_fn cxOk Tryd.func5 (by kernel_rfl) (fun _ => false) (fun _ => none) (by kernel_rfl) (Nat.le_of_ble_eq_true (by kernel_rfl)) ?_
  dsimp only [LB, Tryd.f5, lite, nextOf, Option.isNone, Bool.not_true, Bool.not_false, Bool.and_true, Bool.true_and, Bool.false_and, Bool.and_self, Bool.false_eq_true, if_false, if_true, ↓reduceIte, liteO, List.map, Option.map, frame0, List.zipIdx, Nat.reduceAdd]
  try simp only [List.getElem?_toArray, List.getElem?_cons_succ, List.getElem?_cons_zero, Option.bind_some]
  repeat' (first
    | refine aC_seq ?_
    | refine aC_reg rfl ?_
    | refine aC_block ?_
    | refine aC_skip ?_
    | refine aC_loop ?_
    | refine aC_scope ?_
    | refine scopeQ_normal ?_
    | refine scopeQ_exit ?_
    | refine scopeQ_ret ?_
    | refine aC_exit ?_
    | refine aC_ret ?_
    | refine thenQ_normal ?_
    | refine blockQ_normal ?_
    | refine thenQ_ret ?_
    | refine blockQ_ret ?_
    | refine thenQ_exit ?_
    | refine blockQ_hit ?_
    | refine blockQ_miss rfl ?_
    | refine aL_nil ?_
    | (apply aL_step; (· exact True.intro); (· simp (disch := first | omega | (simp only [go_sem]; omega)) only [go_sem, get_miss, seval, reduceCtorEq, aeqs_cons, aeq_int, q1, q2, eq_self_iff_true, decide_true, decide_false, Bool.not_true, Bool.not_false, beq_self_eq_true, Int.reduceEq, Int.reduceBEq, Int.reduceBNe, bne_self_eq_false, beq_true, beq_false, not_true_eq_false, not_false_eq_true, Bool.and_self, Bool.and_true]); (· simp (disch := first | omega | (simp only [go_sem]; omega)) only [go_sem, get_miss, seval, reduceCtorEq, aeqs_cons, aeq_int, q1, q2, eq_self_iff_true, decide_true, decide_false, Bool.not_true, Bool.not_false, beq_self_eq_true, Int.reduceEq, Int.reduceBEq, Int.reduceBNe, bne_self_eq_false, beq_true, beq_false, not_true_eq_false, not_false_eq_true, Bool.and_self, Bool.and_true] <;> with_reducible rfl); (· simp only [go_sem] <;> with_reducible rfl))
    | (refine aL_skip ?_ (by simp only [go_sem] <;> with_reducible rfl) ?_; (· simp (disch := first | omega | (simp only [go_sem]; omega)) only [go_sem, get_miss, seval, reduceCtorEq, aeqs_cons, aeq_int, q1, q2, eq_self_iff_true, decide_true, decide_false, Bool.not_true, Bool.not_false, beq_self_eq_true, Int.reduceEq, Int.reduceBEq, Int.reduceBNe, bne_self_eq_false, beq_true, beq_false, not_true_eq_false, not_false_eq_true, Bool.and_self, Bool.and_true]))
    | (apply aL_guardN; (· simp (disch := first | omega | (simp only [go_sem]; omega)) only [go_sem, get_miss, seval, reduceCtorEq, aeqs_cons, aeq_int, q1, q2, eq_self_iff_true, decide_true, decide_false, Bool.not_true, Bool.not_false, beq_self_eq_true, Int.reduceEq, Int.reduceBEq, Int.reduceBNe, bne_self_eq_false, beq_true, beq_false, not_true_eq_false, not_false_eq_true, Bool.and_self, Bool.and_true] <;> with_reducible rfl); all_goals (intro h; first | (exfalso; omega) | (simp only [h, decide_true, decide_false, not_true, not_false_iff])))
    | (apply aL_guardP; (· simp (disch := first | omega | (simp only [go_sem]; omega)) only [go_sem, get_miss, seval, reduceCtorEq, aeqs_cons, aeq_int, q1, q2, eq_self_iff_true, decide_true, decide_false, Bool.not_true, Bool.not_false, beq_self_eq_true, Int.reduceEq, Int.reduceBEq, Int.reduceBNe, bne_self_eq_false, beq_true, beq_false, not_true_eq_false, not_false_eq_true, Bool.and_self, Bool.and_true] <;> with_reducible rfl); all_goals (intro h; first | (exfalso; omega) | (simp only [h, decide_true, decide_false, not_true, not_false_iff])))
    | (refine aC_condT ?_ ?_; (· simp (disch := first | omega | (simp only [go_sem]; omega)) only [go_sem, get_miss, seval, reduceCtorEq, aeqs_cons, aeq_int, q1, q2, eq_self_iff_true, decide_true, decide_false, Bool.not_true, Bool.not_false, beq_self_eq_true, Int.reduceEq, Int.reduceBEq, Int.reduceBNe, bne_self_eq_false, beq_true, beq_false, not_true_eq_false, not_false_eq_true, Bool.and_self, Bool.and_true]))
    | (refine aC_condF ?_ ?_; (· simp (disch := first | omega | (simp only [go_sem]; omega)) only [go_sem, get_miss, seval, reduceCtorEq, aeqs_cons, aeq_int, q1, q2, eq_self_iff_true, decide_true, decide_false, Bool.not_true, Bool.not_false, beq_self_eq_true, Int.reduceEq, Int.reduceBEq, Int.reduceBNe, bne_self_eq_false, beq_true, beq_false, not_true_eq_false, not_false_eq_true, Bool.and_self, Bool.and_true]))
    | (refine aC_condP (by simp (disch := first | omega | (simp only [go_sem]; omega)) only [go_sem, get_miss, seval, reduceCtorEq, aeqs_cons, aeq_int, q1, q2, eq_self_iff_true, decide_true, decide_false, Bool.not_true, Bool.not_false, beq_self_eq_true, Int.reduceEq, Int.reduceBEq, Int.reduceBNe, bne_self_eq_false, beq_true, beq_false, not_true_eq_false, not_false_eq_true, Bool.and_self, Bool.and_true] <;> with_reducible rfl) ?_ ?_ <;> (intro h; first | (exfalso; omega) | skip))
    | (apply aL_pure cxG (g1); (case hg => (simp (disch := first | omega | (simp only [go_sem]; omega)) only [go_sem, get_miss, seval, reduceCtorEq, aeqs_cons, aeq_int, q1, q2, eq_self_iff_true, decide_true, decide_false, Bool.not_true, Bool.not_false, beq_self_eq_true, Int.reduceEq, Int.reduceBEq, Int.reduceBNe, bne_self_eq_false, beq_true, beq_false, not_true_eq_false, not_false_eq_true, Bool.and_self, Bool.and_true])); (case hx => (simp (disch := first | omega | (simp only [go_sem]; omega)) only [go_sem, get_miss, seval, reduceCtorEq, aeqs_cons, aeq_int, q1, q2, eq_self_iff_true, decide_true, decide_false, Bool.not_true, Bool.not_false, beq_self_eq_true, Int.reduceEq, Int.reduceBEq, Int.reduceBNe, bne_self_eq_false, beq_true, beq_false, not_true_eq_false, not_false_eq_true, Bool.and_self, Bool.and_true] <;> with_reducible rfl)); (case ha => (simp (disch := first | omega | (simp only [go_sem]; omega)) only [go_sem, get_miss, seval, reduceCtorEq, aeqs_cons, aeq_int, q1, q2, eq_self_iff_true, decide_true, decide_false, Bool.not_true, Bool.not_false, beq_self_eq_true, Int.reduceEq, Int.reduceBEq, Int.reduceBNe, bne_self_eq_false, beq_true, beq_false, not_true_eq_false, not_false_eq_true, Bool.and_self, Bool.and_true] <;> with_reducible rfl)); (case he => (simp only [go_sem] <;> with_reducible rfl)); (case hcl => (simp)); (case hf => (simp only [go_sem] <;> with_reducible rfl)))
    | (apply aL_pure cxG (g2); (case hg => (simp (disch := first | omega | (simp only [go_sem]; omega)) only [go_sem, get_miss, seval, reduceCtorEq, aeqs_cons, aeq_int, q1, q2, eq_self_iff_true, decide_true, decide_false, Bool.not_true, Bool.not_false, beq_self_eq_true, Int.reduceEq, Int.reduceBEq, Int.reduceBNe, bne_self_eq_false, beq_true, beq_false, not_true_eq_false, not_false_eq_true, Bool.and_self, Bool.and_true])); (case hx => (simp (disch := first | omega | (simp only [go_sem]; omega)) only [go_sem, get_miss, seval, reduceCtorEq, aeqs_cons, aeq_int, q1, q2, eq_self_iff_true, decide_true, decide_false, Bool.not_true, Bool.not_false, beq_self_eq_true, Int.reduceEq, Int.reduceBEq, Int.reduceBNe, bne_self_eq_false, beq_true, beq_false, not_true_eq_false, not_false_eq_true, Bool.and_self, Bool.and_true] <;> with_reducible rfl)); (case ha => (simp (disch := first | omega | (simp only [go_sem]; omega)) only [go_sem, get_miss, seval, reduceCtorEq, aeqs_cons, aeq_int, q1, q2, eq_self_iff_true, decide_true, decide_false, Bool.not_true, Bool.not_false, beq_self_eq_true, Int.reduceEq, Int.reduceBEq, Int.reduceBNe, bne_self_eq_false, beq_true, beq_false, not_true_eq_false, not_false_eq_true, Bool.and_self, Bool.and_true] <;> with_reducible rfl)); (case he => (simp only [go_sem] <;> with_reducible rfl)); (case hcl => (simp)); (case hf => (simp only [go_sem] <;> with_reducible rfl)))
    | (apply aL_pure cxG (g3); (case hg => (simp (disch := first | omega | (simp only [go_sem]; omega)) only [go_sem, get_miss, seval, reduceCtorEq, aeqs_cons, aeq_int, q1, q2, eq_self_iff_true, decide_true, decide_false, Bool.not_true, Bool.not_false, beq_self_eq_true, Int.reduceEq, Int.reduceBEq, Int.reduceBNe, bne_self_eq_false, beq_true, beq_false, not_true_eq_false, not_false_eq_true, Bool.and_self, Bool.and_true])); (case hx => (simp (disch := first | omega | (simp only [go_sem]; omega)) only [go_sem, get_miss, seval, reduceCtorEq, aeqs_cons, aeq_int, q1, q2, eq_self_iff_true, decide_true, decide_false, Bool.not_true, Bool.not_false, beq_self_eq_true, Int.reduceEq, Int.reduceBEq, Int.reduceBNe, bne_self_eq_false, beq_true, beq_false, not_true_eq_false, not_false_eq_true, Bool.and_self, Bool.and_true] <;> with_reducible rfl)); (case ha => (simp (disch := first | omega | (simp only [go_sem]; omega)) only [go_sem, get_miss, seval, reduceCtorEq, aeqs_cons, aeq_int, q1, q2, eq_self_iff_true, decide_true, decide_false, Bool.not_true, Bool.not_false, beq_self_eq_true, Int.reduceEq, Int.reduceBEq, Int.reduceBNe, bne_self_eq_false, beq_true, beq_false, not_true_eq_false, not_false_eq_true, Bool.and_self, Bool.and_true] <;> with_reducible rfl)); (case he => (simp only [go_sem] <;> with_reducible rfl)); (case hcl => (simp)); (case hf => (simp only [go_sem] <;> with_reducible rfl)))
    | (apply aL_pure cxG (g4); (case hg => (simp (disch := first | omega | (simp only [go_sem]; omega)) only [go_sem, get_miss, seval, reduceCtorEq, aeqs_cons, aeq_int, q1, q2, eq_self_iff_true, decide_true, decide_false, Bool.not_true, Bool.not_false, beq_self_eq_true, Int.reduceEq, Int.reduceBEq, Int.reduceBNe, bne_self_eq_false, beq_true, beq_false, not_true_eq_false, not_false_eq_true, Bool.and_self, Bool.and_true])); (case hx => (simp (disch := first | omega | (simp only [go_sem]; omega)) only [go_sem, get_miss, seval, reduceCtorEq, aeqs_cons, aeq_int, q1, q2, eq_self_iff_true, decide_true, decide_false, Bool.not_true, Bool.not_false, beq_self_eq_true, Int.reduceEq, Int.reduceBEq, Int.reduceBNe, bne_self_eq_false, beq_true, beq_false, not_true_eq_false, not_false_eq_true, Bool.and_self, Bool.and_true] <;> with_reducible rfl)); (case ha => (simp (disch := first | omega | (simp only [go_sem]; omega)) only [go_sem, get_miss, seval, reduceCtorEq, aeqs_cons, aeq_int, q1, q2, eq_self_iff_true, decide_true, decide_false, Bool.not_true, Bool.not_false, beq_self_eq_true, Int.reduceEq, Int.reduceBEq, Int.reduceBNe, bne_self_eq_false, beq_true, beq_false, not_true_eq_false, not_false_eq_true, Bool.and_self, Bool.and_true] <;> with_reducible rfl)); (case he => (simp only [go_sem] <;> with_reducible rfl)); (case hcl => (simp)); (case hf => (simp only [go_sem] <;> with_reducible rfl)))
    | (apply aL_pure cxG (hn0); (case hg => (simp (disch := first | omega | (simp only [go_sem]; omega)) only [go_sem, get_miss, seval, reduceCtorEq, aeqs_cons, aeq_int, q1, q2, eq_self_iff_true, decide_true, decide_false, Bool.not_true, Bool.not_false, beq_self_eq_true, Int.reduceEq, Int.reduceBEq, Int.reduceBNe, bne_self_eq_false, beq_true, beq_false, not_true_eq_false, not_false_eq_true, Bool.and_self, Bool.and_true])); (case hx => (simp (disch := first | omega | (simp only [go_sem]; omega)) only [go_sem, get_miss, seval, reduceCtorEq, aeqs_cons, aeq_int, q1, q2, eq_self_iff_true, decide_true, decide_false, Bool.not_true, Bool.not_false, beq_self_eq_true, Int.reduceEq, Int.reduceBEq, Int.reduceBNe, bne_self_eq_false, beq_true, beq_false, not_true_eq_false, not_false_eq_true, Bool.and_self, Bool.and_true] <;> with_reducible rfl)); (case ha => (simp (disch := first | omega | (simp only [go_sem]; omega)) only [go_sem, get_miss, seval, reduceCtorEq, aeqs_cons, aeq_int, q1, q2, eq_self_iff_true, decide_true, decide_false, Bool.not_true, Bool.not_false, beq_self_eq_true, Int.reduceEq, Int.reduceBEq, Int.reduceBNe, bne_self_eq_false, beq_true, beq_false, not_true_eq_false, not_false_eq_true, Bool.and_self, Bool.and_true] <;> with_reducible rfl)); (case he => (simp only [go_sem] <;> with_reducible rfl)); (case hcl => (simp)); (case hf => (simp only [go_sem] <;> with_reducible rfl)))
    | (apply aL_pure cxG (hn4); (case hg => (simp (disch := first | omega | (simp only [go_sem]; omega)) only [go_sem, get_miss, seval, reduceCtorEq, aeqs_cons, aeq_int, q1, q2, eq_self_iff_true, decide_true, decide_false, Bool.not_true, Bool.not_false, beq_self_eq_true, Int.reduceEq, Int.reduceBEq, Int.reduceBNe, bne_self_eq_false, beq_true, beq_false, not_true_eq_false, not_false_eq_true, Bool.and_self, Bool.and_true])); (case hx => (simp (disch := first | omega | (simp only [go_sem]; omega)) only [go_sem, get_miss, seval, reduceCtorEq, aeqs_cons, aeq_int, q1, q2, eq_self_iff_true, decide_true, decide_false, Bool.not_true, Bool.not_false, beq_self_eq_true, Int.reduceEq, Int.reduceBEq, Int.reduceBNe, bne_self_eq_false, beq_true, beq_false, not_true_eq_false, not_false_eq_true, Bool.and_self, Bool.and_true] <;> with_reducible rfl)); (case ha => (simp (disch := first | omega | (simp only [go_sem]; omega)) only [go_sem, get_miss, seval, reduceCtorEq, aeqs_cons, aeq_int, q1, q2, eq_self_iff_true, decide_true, decide_false, Bool.not_true, Bool.not_false, beq_self_eq_true, Int.reduceEq, Int.reduceBEq, Int.reduceBNe, bne_self_eq_false, beq_true, beq_false, not_true_eq_false, not_false_eq_true, Bool.and_self, Bool.and_true] <;> with_reducible rfl)); (case he => (simp only [go_sem] <;> with_reducible rfl)); (case hcl => (simp)); (case hf => (simp only [go_sem] <;> with_reducible rfl)))
    | (apply aL_pure cxG (hk); (case hg => (simp (disch := first | omega | (simp only [go_sem]; omega)) only [go_sem, get_miss, seval, reduceCtorEq, aeqs_cons, aeq_int, q1, q2, eq_self_iff_true, decide_true, decide_false, Bool.not_true, Bool.not_false, beq_self_eq_true, Int.reduceEq, Int.reduceBEq, Int.reduceBNe, bne_self_eq_false, beq_true, beq_false, not_true_eq_false, not_false_eq_true, Bool.and_self, Bool.and_true])); (case hx => (simp (disch := first | omega | (simp only [go_sem]; omega)) only [go_sem, get_miss, seval, reduceCtorEq, aeqs_cons, aeq_int, q1, q2, eq_self_iff_true, decide_true, decide_false, Bool.not_true, Bool.not_false, beq_self_eq_true, Int.reduceEq, Int.reduceBEq, Int.reduceBNe, bne_self_eq_false, beq_true, beq_false, not_true_eq_false, not_false_eq_true, Bool.and_self, Bool.and_true] <;> with_reducible rfl)); (case ha => (simp (disch := first | omega | (simp only [go_sem]; omega)) only [go_sem, get_miss, seval, reduceCtorEq, aeqs_cons, aeq_int, q1, q2, eq_self_iff_true, decide_true, decide_false, Bool.not_true, Bool.not_false, beq_self_eq_true, Int.reduceEq, Int.reduceBEq, Int.reduceBNe, bne_self_eq_false, beq_true, beq_false, not_true_eq_false, not_false_eq_true, Bool.and_self, Bool.and_true] <;> with_reducible rfl)); (case he => (simp only [go_sem] <;> with_reducible rfl)); (case hcl => (simp)); (case hf => (simp only [go_sem] <;> with_reducible rfl)))
    | fail)
  all_goals try (first | exact True.intro | exact not_false | omega)
  all_goals try (simp (disch := first | omega | (simp only [go_sem]; omega)) only [go_sem, get_miss, seval, reduceCtorEq] <;> first | exact True.intro | omega)
  all_goals (clear hn0 hn4 g1 g2 g3 g4 hk)
  all_goals try (simp (disch := first | omega | (simp only [go_sem]; omega)) only [go_sem, get_miss, seval, reduceCtorEq])
  all_goals try simp
  all_goals first | exact ⟨by kernel_rfl, by kernel_rfl, q3⟩ | exact ⟨by kernel_rfl, by kernel_rfl, q4⟩
end
end Go.Am
