/- CpuReads, for any word, any text of at most 9000 bytes: it returns true and changes nothing. -/
import Derived.Test.YtbkfnbnechpolaaDoorC01
import Derived.Test.YtbkfnbnechpolaaDoorC23
import Derived.Test.YtbkfnbnechpolaaDoorC29
import Derived.Test.YtbkfnbnechpolaaDoorC20
set_option linter.unusedVariables false
set_option linter.unusedSimpArgs false
namespace Go.Am
open Go Go.Proofs
set_option linter.unusedSimpArgs false
set_option linter.unusedVariables false
set_option maxHeartbeats 8000000
set_option maxRecDepth 100000
section
attribute [local irreducible] aC aL thenQ blockQ scopeQ ALoop AWp

theorem law_reads (w : Nat) (hw : w < 18446744073709551616) (s : List UInt8) (hsl : s.length ≤ 9223372036854775807) :
    APure cx 3 [.int .u64 w, .str s] (.bool true) := by
  have hn0 := law_num 0
  have hn4 := law_num 4
  by_cases hs : s.length ≤ 9000
  case neg =>
    refine pure_fn cxOk Tryd.func3 (by kernel_rfl) (fun _ => false) (fun _ => none) (by kernel_rfl) (Nat.le_of_ble_eq_true (by kernel_rfl)) ?_
    dsimp only [LB, Tryd.f3, lite, nextOf, Option.isNone, Bool.not_true, Bool.not_false, Bool.and_true, Bool.true_and, Bool.false_and, Bool.and_self, Bool.false_eq_true, if_false, if_true, ↓reduceIte, liteO, List.map, Option.map, frame0, List.zipIdx, Nat.reduceAdd]
    try simp only [List.getElem?_toArray, List.getElem?_cons_succ, List.getElem?_cons_zero, Option.bind_some]
    repeat' (first
      | refine aC_seq ?_
      | refine aC_reg rfl ?_
      | refine aC_block ?_
      | refine aC_skip ?_
      | refine aC_loop ?_
      | refine aC_scope ?_
      | refine scopeQ_normal ?_
      | refine scopeQ_exit ?_
      | refine scopeQ_ret ?_
      | refine aC_exit ?_
      | refine aC_ret ?_
      | refine thenQ_normal ?_
      | refine blockQ_normal ?_
      | refine thenQ_ret ?_
      | refine blockQ_ret ?_
      | refine thenQ_exit ?_
      | refine blockQ_hit ?_
      | refine blockQ_miss rfl ?_
      | refine aL_nil ?_
      | (apply aL_step; (· exact True.intro); (· simp (disch := first | omega | (simp only [go_sem]; omega)) only [go_sem, get_miss, seval, reduceCtorEq]); (· simp (disch := first | omega | (simp only [go_sem]; omega)) only [go_sem, get_miss, seval, reduceCtorEq] <;> with_reducible rfl); (· simp only [go_sem] <;> with_reducible rfl))
      | (refine aL_skip ?_ (by simp only [go_sem] <;> with_reducible rfl) ?_; (· simp (disch := first | omega | (simp only [go_sem]; omega)) only [go_sem, get_miss, seval, reduceCtorEq]))
      | (apply aL_guardN; (· simp (disch := first | omega | (simp only [go_sem]; omega)) only [go_sem, get_miss, seval, reduceCtorEq] <;> with_reducible rfl); all_goals (intro h; first | (exfalso; omega) | (simp only [h, decide_true, decide_false, not_true, not_false_iff])))
      | (apply aL_guardP; (· simp (disch := first | omega | (simp only [go_sem]; omega)) only [go_sem, get_miss, seval, reduceCtorEq] <;> with_reducible rfl); all_goals (intro h; first | (exfalso; omega) | (simp only [h, decide_true, decide_false, not_true, not_false_iff])))
      | (refine aC_condT ?_ ?_; (· simp (disch := first | omega | (simp only [go_sem]; omega)) only [go_sem, get_miss, seval, reduceCtorEq]))
      | (refine aC_condF ?_ ?_; (· simp (disch := first | omega | (simp only [go_sem]; omega)) only [go_sem, get_miss, seval, reduceCtorEq]))
      | (refine aC_condP (by simp (disch := first | omega | (simp only [go_sem]; omega)) only [go_sem, get_miss, seval, reduceCtorEq] <;> with_reducible rfl) ?_ ?_ <;> (intro h; first | (exfalso; omega) | skip))
      | (apply aL_pure cxG (cpu_known); (case hg => (simp (disch := first | omega | (simp only [go_sem]; omega)) only [go_sem, get_miss, seval, reduceCtorEq])); (case hx => (simp (disch := first | omega | (simp only [go_sem]; omega)) only [go_sem, get_miss, seval, reduceCtorEq] <;> with_reducible rfl)); (case ha => (simp (disch := first | omega | (simp only [go_sem]; omega)) only [go_sem, get_miss, seval, reduceCtorEq] <;> with_reducible rfl)); (case he => (simp only [go_sem] <;> with_reducible rfl)); (case hcl => (simp)); (case hf => (simp only [go_sem] <;> with_reducible rfl)))
      | fail)
    all_goals try (first | exact True.intro | omega)
    all_goals try (simp (disch := first | omega | (simp only [go_sem]; omega)) only [go_sem, get_miss, seval, reduceCtorEq] <;> first | exact True.intro | omega)
    all_goals try (simp (disch := first | omega | (simp only [go_sem]; omega)) only [go_sem, get_miss, seval, reduceCtorEq])
    all_goals try simp
  case pos =>
  have hd1 := cpu_Decode w hw
  have hd2 := ref_Decode w hw
  have hu : ∃ (y : AVal) (e : Int) (b : Bool), ((b = true ∧ e = 0) ∨ (b = false ∧ e = 4)) ∧ (∃ a1 a2 a3 a4 a5 : Int, y = .agg [.int .i64 a1, .int .i64 a2, .int .i64 a3, .int .i64 a4, .int .i64 a5]) ∧
      APure cx 13 [.str s] (.tup [y, .int .i64 e]) ∧ APure cx 14 [.str s] (.tup [y, .bool b]) := by
    by_cases h : ∃ op d a b i : Int, IsIns s op d a b i
    · obtain ⟨op, d, a, b, i, h⟩ := h
      exact ⟨_, 0, true, .inl ⟨rfl, rfl⟩, ⟨op, d, a, b, i, rfl⟩, cpu_Untext s (by omega) _ (.inl ⟨op, d, a, b, i, h, rfl⟩), ref_Untext s (by omega) _ (.inl ⟨op, d, a, b, i, h, rfl⟩)⟩
    · have h' : ∀ op d a b i, ¬ IsIns s op d a b i := fun op d a b i k => h ⟨op, d, a, b, i, k⟩
      exact ⟨_, 4, false, .inr ⟨rfl, rfl⟩, ⟨0, 0, 0, 0, 0, rfl⟩, cpu_Untext s (by omega) _ (.inr ⟨h', rfl⟩), ref_Untext s (by omega) _ (.inr ⟨h', rfl⟩)⟩
  have hd : ∃ (y : AVal) (e : Int) (b : Bool), ((b = true ∧ e = 0) ∨ (b = false ∧ e = 4)) ∧ (∃ a1 a2 a3 a4 a5 : Int, y = .agg [.int .i64 a1, .int .i64 a2, .int .i64 a3, .int .i64 a4, .int .i64 a5]) ∧
      APure cx 10 [.int .u64 w] (.tup [y, .int .i64 e]) ∧ APure cx 11 [.int .u64 w] (.tup [y, .bool b]) := by
    by_cases h : MayW w
    · rw [if_pos h] at hd1 hd2
      exact ⟨_, 0, true, .inl ⟨rfl, rfl⟩, ⟨_, _, _, _, _, rfl⟩, hd1, hd2⟩
    · rw [if_neg h] at hd1 hd2
      exact ⟨_, 4, false, .inr ⟨rfl, rfl⟩, ⟨_, _, _, _, _, rfl⟩, hd1, hd2⟩
  clear hd1 hd2
  obtain ⟨_, e1, b1, hc1, ⟨x1, x2, x3, x4, x5, rfl⟩, h1, h2⟩ := hd
  obtain ⟨_, e2, b2, hc2, ⟨y1, y2, y3, y4, y5, rfl⟩, h3, h4⟩ := hu
  rcases hc1 with ⟨rfl, rfl⟩ | ⟨rfl, rfl⟩ <;> rcases hc2 with ⟨rfl, rfl⟩ | ⟨rfl, rfl⟩
  all_goals
  refine pure_fn cxOk Tryd.func3 (by kernel_rfl) (fun _ => false) (fun _ => none) (by kernel_rfl) (Nat.le_of_ble_eq_true (by kernel_rfl)) ?_
  dsimp only [LB, Tryd.f3, lite, nextOf, Option.isNone, Bool.not_true, Bool.not_false, Bool.and_true, Bool.true_and, Bool.false_and, Bool.and_self, Bool.false_eq_true, if_false, if_true, ↓reduceIte, liteO, List.map, Option.map, frame0, List.zipIdx, Nat.reduceAdd]
  try simp only [List.getElem?_toArray, List.getElem?_cons_succ, List.getElem?_cons_zero, Option.bind_some]
  repeat' (first
    | refine aC_seq ?_
    | refine aC_reg rfl ?_
    | refine aC_block ?_
    | refine aC_skip ?_
    | refine aC_loop ?_
    | refine aC_scope ?_
    | refine scopeQ_normal ?_
    | refine scopeQ_exit ?_
    | refine scopeQ_ret ?_
    | refine aC_exit ?_
    | refine aC_ret ?_
    | refine thenQ_normal ?_
    | refine blockQ_normal ?_
    | refine thenQ_ret ?_
    | refine blockQ_ret ?_
    | refine thenQ_exit ?_
    | refine blockQ_hit ?_
    | refine blockQ_miss rfl ?_
    | refine aL_nil ?_
    | (apply aL_step; (· exact True.intro); (· simp (disch := first | omega | (simp only [go_sem]; omega)) only [go_sem, get_miss, seval, reduceCtorEq, eq_self_iff_true, decide_true, decide_false, Bool.not_true, Bool.not_false, beq_self_eq_true, Int.reduceEq, Int.reduceBEq, Int.reduceBNe, bne_self_eq_false, beq_true, beq_false]); (· simp (disch := first | omega | (simp only [go_sem]; omega)) only [go_sem, get_miss, seval, reduceCtorEq, eq_self_iff_true, decide_true, decide_false, Bool.not_true, Bool.not_false, beq_self_eq_true, Int.reduceEq, Int.reduceBEq, Int.reduceBNe, bne_self_eq_false, beq_true, beq_false] <;> with_reducible rfl); (· simp only [go_sem] <;> with_reducible rfl))
    | (refine aL_skip ?_ (by simp only [go_sem] <;> with_reducible rfl) ?_; (· simp (disch := first | omega | (simp only [go_sem]; omega)) only [go_sem, get_miss, seval, reduceCtorEq, eq_self_iff_true, decide_true, decide_false, Bool.not_true, Bool.not_false, beq_self_eq_true, Int.reduceEq, Int.reduceBEq, Int.reduceBNe, bne_self_eq_false, beq_true, beq_false]))
    | (apply aL_guardN; (· simp (disch := first | omega | (simp only [go_sem]; omega)) only [go_sem, get_miss, seval, reduceCtorEq, eq_self_iff_true, decide_true, decide_false, Bool.not_true, Bool.not_false, beq_self_eq_true, Int.reduceEq, Int.reduceBEq, Int.reduceBNe, bne_self_eq_false, beq_true, beq_false] <;> with_reducible rfl); all_goals (intro h; first | (exfalso; omega) | (simp only [h, decide_true, decide_false, not_true, not_false_iff])))
    | (apply aL_guardP; (· simp (disch := first | omega | (simp only [go_sem]; omega)) only [go_sem, get_miss, seval, reduceCtorEq, eq_self_iff_true, decide_true, decide_false, Bool.not_true, Bool.not_false, beq_self_eq_true, Int.reduceEq, Int.reduceBEq, Int.reduceBNe, bne_self_eq_false, beq_true, beq_false] <;> with_reducible rfl); all_goals (intro h; first | (exfalso; omega) | (simp only [h, decide_true, decide_false, not_true, not_false_iff])))
    | (refine aC_condT ?_ ?_; (· simp (disch := first | omega | (simp only [go_sem]; omega)) only [go_sem, get_miss, seval, reduceCtorEq, eq_self_iff_true, decide_true, decide_false, Bool.not_true, Bool.not_false, beq_self_eq_true, Int.reduceEq, Int.reduceBEq, Int.reduceBNe, bne_self_eq_false, beq_true, beq_false]))
    | (refine aC_condF ?_ ?_; (· simp (disch := first | omega | (simp only [go_sem]; omega)) only [go_sem, get_miss, seval, reduceCtorEq, eq_self_iff_true, decide_true, decide_false, Bool.not_true, Bool.not_false, beq_self_eq_true, Int.reduceEq, Int.reduceBEq, Int.reduceBNe, bne_self_eq_false, beq_true, beq_false]))
    | (refine aC_condP (by simp (disch := first | omega | (simp only [go_sem]; omega)) only [go_sem, get_miss, seval, reduceCtorEq, eq_self_iff_true, decide_true, decide_false, Bool.not_true, Bool.not_false, beq_self_eq_true, Int.reduceEq, Int.reduceBEq, Int.reduceBNe, bne_self_eq_false, beq_true, beq_false] <;> with_reducible rfl) ?_ ?_ <;> (intro h; first | (exfalso; omega) | skip))
    | (apply aL_pure cxG (h1); (case hg => (simp (disch := first | omega | (simp only [go_sem]; omega)) only [go_sem, get_miss, seval, reduceCtorEq, eq_self_iff_true, decide_true, decide_false, Bool.not_true, Bool.not_false, beq_self_eq_true, Int.reduceEq, Int.reduceBEq, Int.reduceBNe, bne_self_eq_false, beq_true, beq_false])); (case hx => (simp (disch := first | omega | (simp only [go_sem]; omega)) only [go_sem, get_miss, seval, reduceCtorEq, eq_self_iff_true, decide_true, decide_false, Bool.not_true, Bool.not_false, beq_self_eq_true, Int.reduceEq, Int.reduceBEq, Int.reduceBNe, bne_self_eq_false, beq_true, beq_false] <;> with_reducible rfl)); (case ha => (simp (disch := first | omega | (simp only [go_sem]; omega)) only [go_sem, get_miss, seval, reduceCtorEq, eq_self_iff_true, decide_true, decide_false, Bool.not_true, Bool.not_false, beq_self_eq_true, Int.reduceEq, Int.reduceBEq, Int.reduceBNe, bne_self_eq_false, beq_true, beq_false] <;> with_reducible rfl)); (case he => (simp only [go_sem] <;> with_reducible rfl)); (case hcl => (simp)); (case hf => (simp only [go_sem] <;> with_reducible rfl)))
    | (apply aL_pure cxG (h2); (case hg => (simp (disch := first | omega | (simp only [go_sem]; omega)) only [go_sem, get_miss, seval, reduceCtorEq, eq_self_iff_true, decide_true, decide_false, Bool.not_true, Bool.not_false, beq_self_eq_true, Int.reduceEq, Int.reduceBEq, Int.reduceBNe, bne_self_eq_false, beq_true, beq_false])); (case hx => (simp (disch := first | omega | (simp only [go_sem]; omega)) only [go_sem, get_miss, seval, reduceCtorEq, eq_self_iff_true, decide_true, decide_false, Bool.not_true, Bool.not_false, beq_self_eq_true, Int.reduceEq, Int.reduceBEq, Int.reduceBNe, bne_self_eq_false, beq_true, beq_false] <;> with_reducible rfl)); (case ha => (simp (disch := first | omega | (simp only [go_sem]; omega)) only [go_sem, get_miss, seval, reduceCtorEq, eq_self_iff_true, decide_true, decide_false, Bool.not_true, Bool.not_false, beq_self_eq_true, Int.reduceEq, Int.reduceBEq, Int.reduceBNe, bne_self_eq_false, beq_true, beq_false] <;> with_reducible rfl)); (case he => (simp only [go_sem] <;> with_reducible rfl)); (case hcl => (simp)); (case hf => (simp only [go_sem] <;> with_reducible rfl)))
    | (apply aL_pure cxG (h3); (case hg => (simp (disch := first | omega | (simp only [go_sem]; omega)) only [go_sem, get_miss, seval, reduceCtorEq, eq_self_iff_true, decide_true, decide_false, Bool.not_true, Bool.not_false, beq_self_eq_true, Int.reduceEq, Int.reduceBEq, Int.reduceBNe, bne_self_eq_false, beq_true, beq_false])); (case hx => (simp (disch := first | omega | (simp only [go_sem]; omega)) only [go_sem, get_miss, seval, reduceCtorEq, eq_self_iff_true, decide_true, decide_false, Bool.not_true, Bool.not_false, beq_self_eq_true, Int.reduceEq, Int.reduceBEq, Int.reduceBNe, bne_self_eq_false, beq_true, beq_false] <;> with_reducible rfl)); (case ha => (simp (disch := first | omega | (simp only [go_sem]; omega)) only [go_sem, get_miss, seval, reduceCtorEq, eq_self_iff_true, decide_true, decide_false, Bool.not_true, Bool.not_false, beq_self_eq_true, Int.reduceEq, Int.reduceBEq, Int.reduceBNe, bne_self_eq_false, beq_true, beq_false] <;> with_reducible rfl)); (case he => (simp only [go_sem] <;> with_reducible rfl)); (case hcl => (simp)); (case hf => (simp only [go_sem] <;> with_reducible rfl)))
    | (apply aL_pure cxG (h4); (case hg => (simp (disch := first | omega | (simp only [go_sem]; omega)) only [go_sem, get_miss, seval, reduceCtorEq, eq_self_iff_true, decide_true, decide_false, Bool.not_true, Bool.not_false, beq_self_eq_true, Int.reduceEq, Int.reduceBEq, Int.reduceBNe, bne_self_eq_false, beq_true, beq_false])); (case hx => (simp (disch := first | omega | (simp only [go_sem]; omega)) only [go_sem, get_miss, seval, reduceCtorEq, eq_self_iff_true, decide_true, decide_false, Bool.not_true, Bool.not_false, beq_self_eq_true, Int.reduceEq, Int.reduceBEq, Int.reduceBNe, bne_self_eq_false, beq_true, beq_false] <;> with_reducible rfl)); (case ha => (simp (disch := first | omega | (simp only [go_sem]; omega)) only [go_sem, get_miss, seval, reduceCtorEq, eq_self_iff_true, decide_true, decide_false, Bool.not_true, Bool.not_false, beq_self_eq_true, Int.reduceEq, Int.reduceBEq, Int.reduceBNe, bne_self_eq_false, beq_true, beq_false] <;> with_reducible rfl)); (case he => (simp only [go_sem] <;> with_reducible rfl)); (case hcl => (simp)); (case hf => (simp only [go_sem] <;> with_reducible rfl)))
    | (apply aL_pure cxG (hn0); (case hg => (simp (disch := first | omega | (simp only [go_sem]; omega)) only [go_sem, get_miss, seval, reduceCtorEq, eq_self_iff_true, decide_true, decide_false, Bool.not_true, Bool.not_false, beq_self_eq_true, Int.reduceEq, Int.reduceBEq, Int.reduceBNe, bne_self_eq_false, beq_true, beq_false])); (case hx => (simp (disch := first | omega | (simp only [go_sem]; omega)) only [go_sem, get_miss, seval, reduceCtorEq, eq_self_iff_true, decide_true, decide_false, Bool.not_true, Bool.not_false, beq_self_eq_true, Int.reduceEq, Int.reduceBEq, Int.reduceBNe, bne_self_eq_false, beq_true, beq_false] <;> with_reducible rfl)); (case ha => (simp (disch := first | omega | (simp only [go_sem]; omega)) only [go_sem, get_miss, seval, reduceCtorEq, eq_self_iff_true, decide_true, decide_false, Bool.not_true, Bool.not_false, beq_self_eq_true, Int.reduceEq, Int.reduceBEq, Int.reduceBNe, bne_self_eq_false, beq_true, beq_false] <;> with_reducible rfl)); (case he => (simp only [go_sem] <;> with_reducible rfl)); (case hcl => (simp)); (case hf => (simp only [go_sem] <;> with_reducible rfl)))
    | (apply aL_pure cxG (hn4); (case hg => (simp (disch := first | omega | (simp only [go_sem]; omega)) only [go_sem, get_miss, seval, reduceCtorEq, eq_self_iff_true, decide_true, decide_false, Bool.not_true, Bool.not_false, beq_self_eq_true, Int.reduceEq, Int.reduceBEq, Int.reduceBNe, bne_self_eq_false, beq_true, beq_false])); (case hx => (simp (disch := first | omega | (simp only [go_sem]; omega)) only [go_sem, get_miss, seval, reduceCtorEq, eq_self_iff_true, decide_true, decide_false, Bool.not_true, Bool.not_false, beq_self_eq_true, Int.reduceEq, Int.reduceBEq, Int.reduceBNe, bne_self_eq_false, beq_true, beq_false] <;> with_reducible rfl)); (case ha => (simp (disch := first | omega | (simp only [go_sem]; omega)) only [go_sem, get_miss, seval, reduceCtorEq, eq_self_iff_true, decide_true, decide_false, Bool.not_true, Bool.not_false, beq_self_eq_true, Int.reduceEq, Int.reduceBEq, Int.reduceBNe, bne_self_eq_false, beq_true, beq_false] <;> with_reducible rfl)); (case he => (simp only [go_sem] <;> with_reducible rfl)); (case hcl => (simp)); (case hf => (simp only [go_sem] <;> with_reducible rfl)))
    | (apply aL_pure cxG (cpu_known); (case hg => (simp (disch := first | omega | (simp only [go_sem]; omega)) only [go_sem, get_miss, seval, reduceCtorEq, eq_self_iff_true, decide_true, decide_false, Bool.not_true, Bool.not_false, beq_self_eq_true, Int.reduceEq, Int.reduceBEq, Int.reduceBNe, bne_self_eq_false, beq_true, beq_false])); (case hx => (simp (disch := first | omega | (simp only [go_sem]; omega)) only [go_sem, get_miss, seval, reduceCtorEq, eq_self_iff_true, decide_true, decide_false, Bool.not_true, Bool.not_false, beq_self_eq_true, Int.reduceEq, Int.reduceBEq, Int.reduceBNe, bne_self_eq_false, beq_true, beq_false] <;> with_reducible rfl)); (case ha => (simp (disch := first | omega | (simp only [go_sem]; omega)) only [go_sem, get_miss, seval, reduceCtorEq, eq_self_iff_true, decide_true, decide_false, Bool.not_true, Bool.not_false, beq_self_eq_true, Int.reduceEq, Int.reduceBEq, Int.reduceBNe, bne_self_eq_false, beq_true, beq_false] <;> with_reducible rfl)); (case he => (simp only [go_sem] <;> with_reducible rfl)); (case hcl => (simp)); (case hf => (simp only [go_sem] <;> with_reducible rfl)))
    | fail)
  all_goals try (first | exact True.intro | omega)
  all_goals try (simp (disch := first | omega | (simp only [go_sem]; omega)) only [go_sem, get_miss, seval, reduceCtorEq] <;> first | exact True.intro | omega)
  all_goals (clear hn0 hn4 h1 h2 h3 h4)
  all_goals try (simp (disch := first | omega | (simp only [go_sem]; omega)) only [go_sem, get_miss, seval, reduceCtorEq])
  all_goals try simp
  all_goals first | exact ⟨by kernel_rfl, by kernel_rfl⟩ | exact ⟨by kernel_rfl, by kernel_rfl, rfl⟩
end

theorem arg_str {v : AVal} (h : ArgV Tryd.prog 9 9 v) : ∃ s : List UInt8, v = .str s ∧ s.length ≤ 9223372036854775807 := by
  obtain ⟨cs, rfl, hc⟩ := h
  unfold ArgC at hc
  rw [Tryd.underlying9] at hc
  obtain ⟨s, rfl, hs⟩ := hc
  refine ⟨s, ?_, hs⟩
  unfold wrapA
  rw [Tryd.underlying9]
  rfl

theorem args_reads (avs : List AVal) (h : All2 (ArgV Tryd.prog 9) [22, 9] avs) : APure cx 3 avs (.bool true) := by
  cases h with
  | cons h1 t =>
    cases t with
    | cons h2 t =>
      cases t
      obtain ⟨n, rfl, hn0, hn1⟩ := arg_word h1
      obtain ⟨s, rfl, hs⟩ := arg_str h2
      obtain ⟨w, rfl⟩ := Int.eq_ofNat_of_zero_le hn0
      exact law_reads w (by omega) s hs
end Go.Am
namespace Go.Proofs.YtbkfnbnechpolaaDoor
open Go.ChangeShapes Go.WideShapes Go.ChangeAt Go.RowKit

set_option maxRecDepth 100000 in
theorem cpu_reads_lifted (os : Os) (started : os.Started) (H : Type) (enc : TypeId × Value → H) :
    ReturnsInHanded {} Tryd.checked os 3 .any (fun w args => (Rows.cpuReadsSpec.pre enc Tryd.prog Tryd.f3 Rows.cpuReadsRow.domain false w args ∧ laidMetH Tryd.prog Rows.cpuReadsRow.laid w) ∧ sizedMet enc Tryd.prog Tryd.f3 (OpenSpec.ofChange Rows.cpuReadsSpec) false w args)
      (Rows.cpuReadsSpec.post enc Tryd.prog Tryd.f3 false true false false) := by
  refine Go.Am.handed_shaped (C := Tryd.checked) (X := fun w _ => laidMetH Tryd.prog Rows.cpuReadsRow.laid w) (fun _ _ _ hh h => h.of_heap hh) own started (by kernel_rfl) Tryd.func3
    (ChangeSpec.witness_shaped (enc := enc) (C := Tryd.checked) (os := os) (X := fun w _ => laidMetH Tryd.prog Rows.cpuReadsRow.laid w) false (World.laidAll Tryd.prog os Rows.cpuReadsRow.laid)
      #[.int .u64 0, .string ByteArray.empty] 8 (World.laidAll_os _ _ _)
      (World.shaped_of_ZipB (by kernel_rfl) (by kernel_rfl)) (by kernel_rfl) (by kernel_rfl) (by kernel_rfl)
      (by rw [MakeChecks.laidMetH_plain _ _ _ (by kernel_rfl)]; exact laidMet_laidAll _ (by kernel_rfl) (by kernel_rfl))) ?_
  intro W base args ds gs before hval0 hW hc _ hL hsh
  have hG := Go.Am.cx_glob (W := W) (by rw [MakeChecks.laidMetH_plain _ _ _ (by kernel_rfl)] at hL; exact hL) hsh
  have hval : ∀ (j : Nat) t v, Tryd.f3.params[j]? = some t → args[j]? = some v → Value.okWide Tryd.prog W .any base t v := hval0
  have hW' := hW
  obtain ⟨p, q, hA0, hV, rfl, _, _⟩ := hW
  have hA : DataW.TrodAll enc Tryd.prog W 0 (fun _ => true) true Tryd.f3.params.toList args.toList ds p := hA0
  rw [Tryd.params3] at hA hval
  obtain ⟨rfl, rfl⟩ := trodVars_none hV
  simp only [List.append_nil] at hW'
  have hpar : Tryd.f3.params.toList = [22, 9] := by rw [Tryd.params3]
  have hds : ∃ d1 d2, ds = [d1, d2] := by
    have := Go.Am.trodAll_lengths hA
    match ds, this with
    | [d1, d2], _ => exact ⟨d1, d2, rfl⟩
  obtain ⟨d1, d2, rfl⟩ := hds
  refine (Go.Am.law_argsG (C := Go.Am.cx) (k := 9) laidOut (by kernel_rfl) Go.Am.args_reads hG hA (fun j t v h1 h2 => hval j t v (by simpa using h1) (by simpa using h2))).mono fun e W' ⟨he, hg⟩ => ?_
  subst he
  exact ⟨_, rfl, Go.Am.post_grown (pa := p) (pv := []) hW' hg (fun _ _ _ => trodAll_mk1 (shut_bool Tryd.underlying4 _))
    (fun sp hs => by
      rw [hpar]
      exact Go.Am.trodAll_grown laidOut rowed (fun h1 h2 => Go.Am.slicesB_ok sliced h1 h2) hg (fun t ht => by
        have hall : ([22, 9].all fun t => Nat.blt t Tryd.prog.types.size) = true := by kernel_rfl
        exact Go.Am.blt_iff.1 (List.all_eq_true.1 hall t ht)) hA (fun p hp => hs p (by simpa using hp)))
    (fun _ _ => rfl) (by simp) (ok_one (by kernel_rfl) rfl (okWide_bool_mk Tryd.underlying4 _))⟩

theorem cpu_reads_row : Rows.CpuReadsSaid :=
  OpenClaim.holds_of_wide 3 Tryd.f3 rfl rfl rfl rfl rfl rfl rfl ⟨rfl, rfl, rfl, rfl, rfl⟩ rfl rfl rfl rfl rfl (by kernel_rfl) Tryd.func3 (by kernel_rfl)
    (of_decide_eq_true (by kernel_rfl)) (by unfold Func.isWrapper; first | (rw [if_pos (by decide +kernel)]; kernel_rfl) | (rw [if_neg (by decide +kernel)]; exact ⟨rfl, rfl⟩))
    (fun os started H enc _ => cpu_reads_lifted os started H enc)

theorem cpu_reads : Rows.CpuReadsCardSaid :=
  Claim7.holds_tied_plain_at .later [] [.data, .data, .data, .data, .sentinel, .sentinel, .pinned] true (true, "29e71d8a8da9ccafa28f71737d4af864240c045c90a8fc056b710aef07ac07d7") true
    cpu_reads_row (fun _ h => by cases h) (by kernel_rfl) (fun _ h => by cases h) cpuReads_row_tie rfl ⟨rfl, rfl⟩ (by kernel_rfl) rfl
    (fun f fn hf hfn => by
      obtain rfl : f = 3 := Option.some.inj ((show Tryd.prog.funcNamed "anchorite/anchoritelaw13.CpuReads" = some 3 by kernel_rfl).symm.trans hf) |>.symm
      obtain rfl : fn = Tryd.f3 := (Option.some.inj (Tryd.func3.symm.trans hfn)).symm
      exact ⟨by kernel_rfl, fun j t ht => by
        rw [Tryd.params3] at ht
        have hm : t ∈ [22, 9] := by simpa using Array.mem_of_getElem? ht
        have hall : ([22, 9].all fun u => !Tryd.prog.wantsStandIn u) = true := by kernel_rfl
        exact (show Tryd.prog.wantsStandIn t = false by simpa using List.all_eq_true.1 hall t hm)⟩)
    (by kernel_rfl)
#print axioms cpu_reads
end Go.Proofs.YtbkfnbnechpolaaDoor
