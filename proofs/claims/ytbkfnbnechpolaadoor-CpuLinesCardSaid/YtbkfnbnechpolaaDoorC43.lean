/- cpu.Give, and what the law CpuGives makes of it. -/
import Derived.Test.YtbkfnbnechpolaaDoorC01
set_option linter.unusedVariables false
set_option linter.unusedSimpArgs false
namespace Go.Am
open Go Go.Proofs
set_option linter.unusedSimpArgs false
set_option linter.unusedVariables false
set_option maxHeartbeats 4000000
set_option maxRecDepth 100000
attribute [local irreducible] aC aL thenQ blockQ scopeQ ALoop AWp

theorem cpu_give (a b c d e f g h p x reg : Int) (h0 : 0 ≤ reg) (h7 : reg ≤ 7) :
    APure cx 25 [.agg (cpuc a b c d e f g h p), .int .i64 reg, .int .u64 x] (.tup [.agg ((cpuc a b c d e f g h p).set reg.toNat (.int .u64 x)), .int .i64 0]) := by
  unfold cpuc
  rcases (show reg = 0 ∨ reg = 1 ∨ reg = 2 ∨ reg = 3 ∨ reg = 4 ∨ reg = 5 ∨ reg = 6 ∨ reg = 7 by omega) with rfl | rfl | rfl | rfl | rfl | rfl | rfl | rfl
  all_goals
    refine pure_fn cxOk Tryd.func25 (by kernel_rfl) (fun _ => false) (fun _ => none) (by kernel_rfl) (Nat.le_of_ble_eq_true (by kernel_rfl)) ?_
    dsimp only [LB, Tryd.f25, lite, nextOf, Option.isNone, Bool.not_true, Bool.not_false, Bool.and_true, Bool.true_and, Bool.false_and, Bool.and_self, Bool.false_eq_true, if_false, if_true, ↓reduceIte, liteO, List.map, Option.map, frame0, List.zipIdx, Nat.reduceAdd]
    try simp only [List.getElem?_toArray, List.getElem?_cons_succ, List.getElem?_cons_zero, Option.bind_some]
    repeat' (first
      | refine aC_seq ?_
      | refine aC_reg rfl ?_
      | refine aC_block ?_
      | refine aC_skip ?_
      | refine aC_loop ?_
      | refine aC_scope ?_
      | refine scopeQ_normal ?_
      | refine scopeQ_exit ?_
      | refine scopeQ_ret ?_
      | refine aC_exit ?_
      | refine aC_ret ?_
      | refine thenQ_normal ?_
      | refine blockQ_normal ?_
      | refine thenQ_ret ?_
      | refine blockQ_ret ?_
      | refine thenQ_exit ?_
      | refine blockQ_hit ?_
      | refine blockQ_miss rfl ?_
      | refine aL_nil ?_
      | (apply aL_step; (· exact True.intro); (· simp (disch := first | omega | (simp only [go_sem]; omega)) only [go_sem, get_miss, seval, reduceCtorEq]); (· simp (disch := first | omega | (simp only [go_sem]; omega)) only [go_sem, get_miss, seval, reduceCtorEq] <;> with_reducible rfl); (· simp only [go_sem] <;> with_reducible rfl))
      | (refine aL_skip ?_ (by simp only [go_sem] <;> with_reducible rfl) ?_; (· simp (disch := first | omega | (simp only [go_sem]; omega)) only [go_sem, get_miss, seval, reduceCtorEq]))
      | (apply aL_guardN; (· simp (disch := first | omega | (simp only [go_sem]; omega)) only [go_sem, get_miss, seval, reduceCtorEq] <;> with_reducible rfl); all_goals (intro h; first | (exfalso; omega) | (simp only [h, decide_true, decide_false, not_true, not_false_iff])))
      | (apply aL_guardP; (· simp (disch := first | omega | (simp only [go_sem]; omega)) only [go_sem, get_miss, seval, reduceCtorEq] <;> with_reducible rfl); all_goals (intro h; first | (exfalso; omega) | (simp only [h, decide_true, decide_false, not_true, not_false_iff])))
      | (refine aC_condT ?_ ?_; (· simp (disch := first | omega | (simp only [go_sem]; omega)) only [go_sem, get_miss, seval, reduceCtorEq]))
      | (refine aC_condF ?_ ?_; (· simp (disch := first | omega | (simp only [go_sem]; omega)) only [go_sem, get_miss, seval, reduceCtorEq]))
      | (refine aC_condP (by simp (disch := first | omega | (simp only [go_sem]; omega)) only [go_sem, get_miss, seval, reduceCtorEq] <;> with_reducible rfl) ?_ ?_ <;> (intro h; first | (exfalso; omega) | skip))
      | fail)
    all_goals try (first | exact True.intro | omega)
    all_goals try (simp (disch := first | omega | (simp only [go_sem]; omega)) only [go_sem, get_miss, seval, reduceCtorEq] <;> first | exact True.intro | omega)
  all_goals try (simp (disch := first | omega | (simp only [go_sem]; omega)) only [go_sem, get_miss, seval, reduceCtorEq])
  all_goals try simp
  all_goals first | rfl | exact ⟨by kernel_rfl, by kernel_rfl⟩ | exact ⟨by kernel_rfl, by kernel_rfl, by simp [skbs_cons, skb_int, skbs_nil]⟩ | (exfalso; simp at h; done) | (simp [putCells_eq]; done)

end Go.Am
