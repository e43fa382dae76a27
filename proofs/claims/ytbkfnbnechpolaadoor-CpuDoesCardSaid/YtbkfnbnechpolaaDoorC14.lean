/- cpu.Needs, ref13.Needs, operation by operation. Printed by a program (mkdo.py). -/
import Derived.Test.YtbkfnbnechpolaaDoorC10
import Derived.Test.YtbkfnbnechpolaaDoorAmWalkC
set_option linter.unusedVariables false
set_option linter.unusedSimpArgs false
namespace Go.Am
open Go Go.Proofs
set_option linter.unusedSimpArgs false
set_option linter.unusedVariables false
set_option maxHeartbeats 80000000
set_option maxRecDepth 100000
attribute [local irreducible] aC aL thenQ blockQ scopeQ ALoop AWp
attribute [-go_sem] putCells_eq
attribute [local go_sem] ws_length ws_load ws_take ws_put ws_store ws_drop0 ws_head ws_one ws_closed ws_get8 Nat.mul_one

theorem cpu_needs (L : List Int) (d a b imm : Int) (hL : L.length = 9) (h0 : -9223372036854775808 ≤ imm) (h1 : imm ≤ 9223372036854775807) :
    (0 ≤ d → d < 8 → 0 ≤ a → a < 8 → 0 ≤ b → b < 8 → 0 ≤ L.getD b.toNat 0 → L.getD b.toNat 0 ≤ 18446744073709551615 → MayF 11 d a b imm (frm 11).1 (frm 11).2 → APure cx 17 [.agg (ws L), .agg [.int .i64 11, .int .i64 d, .int .i64 a, .int .i64 b, .int .i64 imm]] (.agg [.int .i64 1, .int .u64 (IntKind.u64.wrap ((L.getD a.toNat 0) + IntKind.u64.wrap imm)), .int .u64 0])) ∧
    (0 ≤ d → d < 8 → 0 ≤ a → a < 8 → 0 ≤ b → b < 8 → 0 ≤ L.getD b.toNat 0 → L.getD b.toNat 0 ≤ 18446744073709551615 → MayF 12 d a b imm (frm 12).1 (frm 12).2 → APure cx 17 [.agg (ws L), .agg [.int .i64 12, .int .i64 d, .int .i64 a, .int .i64 b, .int .i64 imm]] (.agg [.int .i64 2, .int .u64 (IntKind.u64.wrap ((L.getD a.toNat 0) + IntKind.u64.wrap imm)), .int .u64 (L.getD b.toNat 0)])) ∧
    (∀ op : Int, 0 ≤ d → d < 8 → 0 ≤ a → a < 8 → 0 ≤ b → b < 8 → 0 ≤ L.getD b.toNat 0 → L.getD b.toNat 0 ≤ 18446744073709551615 → MayF op d a b imm (frm op).1 (frm op).2 → op ≠ 11 → op ≠ 12 → APure cx 17 [.agg (ws L), .agg [.int .i64 op, .int .i64 d, .int .i64 a, .int .i64 b, .int .i64 imm]] (.agg [.int .i64 0, .int .u64 0, .int .u64 0])) ∧
    (∀ op : Int, ¬ MayF op d a b imm (frm op).1 (frm op).2 → APure cx 17 [.agg (ws L), .agg [.int .i64 op, .int .i64 d, .int .i64 a, .int .i64 b, .int .i64 imm]] (.agg [.int .i64 0, .int .u64 0, .int .u64 0])) := by
  refine ⟨fun d0 d8 a0 a8 b0 b8 bn bm hm => ?oload, fun d0 d8 a0 a8 b0 b8 bn bm hm => ?ostore, fun op d0 d8 a0 a8 b0 b8 bn bm hm ho ho2 => ?onone, fun op hm => ?ono⟩
  case' oload =>
    have hmay := cpu_May 11 d a b imm h0 h1
    rw [decide_eq_true hm] at hmay
  case' ostore =>
    have hmay := cpu_May 12 d a b imm h0 h1
    rw [decide_eq_true hm] at hmay
  case' onone =>
    have hmay := cpu_May op d a b imm h0 h1
    rw [decide_eq_true hm] at hmay
  case' ono =>
    have hmay := cpu_May op d a b imm h0 h1
    rw [decide_eq_false hm] at hmay
  all_goals
    refine pure_fn cxOk Tryd.func17 (by kernel_rfl) (fun _ => false) (fe17.q) (by kernel_rfl) (Nat.le_of_ble_eq_true (by kernel_rfl)) ?_
    dsimp only [LB, Tryd.f17, lite, nextOf, Option.isNone, Bool.not_true, Bool.not_false, Bool.and_true, Bool.true_and, Bool.false_and, Bool.and_self, Bool.false_eq_true, if_false, if_true, ↓reduceIte, liteO, List.map, Option.map, frame0, List.zipIdx, Nat.reduceAdd]
    try simp only [List.getElem?_toArray, List.getElem?_cons_succ, List.getElem?_cons_zero, Option.bind_some]
  all_goals
    repeat' (first
      | refine aC_seq ?_
      | refine aC_reg rfl ?_
      | refine aC_block ?_
      | refine aC_skip ?_
      | refine aC_loop ?_
      | refine aC_scope ?_
      | refine scopeQ_normal ?_
      | refine scopeQ_exit ?_
      | refine scopeQ_ret ?_
      | refine aC_exit ?_
      | refine aC_ret ?_
      | refine thenQ_normal ?_
      | refine blockQ_normal ?_
      | refine thenQ_ret ?_
      | refine blockQ_ret ?_
      | refine thenQ_exit ?_
      | refine blockQ_hit ?_
      | refine blockQ_miss rfl ?_
      | refine aL_nil ?_
      | (apply aL_step; (· trivial); (· simp (disch := (first | omega | (simp only [List.length_set, List.length_append, List.length_cons, List.length_nil, List.length_take, List.length_drop, List.length_replicate, List.length_map, length_bl]; omega))) only [go_sem, get_miss, Nat.reduceEqDiff, ↓reduceIte, Nat.reduceAdd, Nat.reduceMul, Nat.reduceSub, Nat.reduceLT, Nat.reduceLeDiff, Int.reduceToNat, Int.reducePow, Int.reduceLE, Int.reduceLT, Int.reduceNeg, Int.reduceMul, Int.reduceAdd, Int.reduceSub, Nat.reduceBEq, Nat.reduceMod, Nat.reduceDiv, Nat.reducePow, reduceCtorEq]); (· simp (disch := (first | omega | (simp only [List.length_set, List.length_append, List.length_cons, List.length_nil, List.length_take, List.length_drop, List.length_replicate, List.length_map, length_bl]; omega))) only [go_sem, get_miss, Nat.reduceEqDiff, ↓reduceIte, Nat.reduceAdd, Nat.reduceMul, Nat.reduceSub, Nat.reduceLT, Nat.reduceLeDiff, Int.reduceToNat, Int.reducePow, Int.reduceLE, Int.reduceLT, Int.reduceNeg, Int.reduceMul, Int.reduceAdd, Int.reduceSub, Nat.reduceBEq, Nat.reduceMod, Nat.reduceDiv, Nat.reducePow, reduceCtorEq] <;> with_reducible rfl); (· simp only [go_sem] <;> with_reducible rfl))
      | (refine aL_skip ?_ (by simp only [go_sem] <;> with_reducible rfl) ?_; (· simp (disch := (first | omega | (simp only [List.length_set, List.length_append, List.length_cons, List.length_nil, List.length_take, List.length_drop, List.length_replicate, List.length_map, length_bl]; omega))) only [go_sem, get_miss, Nat.reduceEqDiff, ↓reduceIte, Nat.reduceAdd, Nat.reduceMul, Nat.reduceSub, Nat.reduceLT, Nat.reduceLeDiff, Int.reduceToNat, Int.reducePow, Int.reduceLE, Int.reduceLT, Int.reduceNeg, Int.reduceMul, Int.reduceAdd, Int.reduceSub, Nat.reduceBEq, Nat.reduceMod, Nat.reduceDiv, Nat.reducePow, reduceCtorEq]))
      | (apply aL_guardN; (· simp (disch := (first | omega | (simp only [List.length_set, List.length_append, List.length_cons, List.length_nil, List.length_take, List.length_drop, List.length_replicate, List.length_map, length_bl]; omega))) only [go_sem, get_miss, Nat.reduceEqDiff, ↓reduceIte, Nat.reduceAdd, Nat.reduceMul, Nat.reduceSub, Nat.reduceLT, Nat.reduceLeDiff, Int.reduceToNat, Int.reducePow, Int.reduceLE, Int.reduceLT, Int.reduceNeg, Int.reduceMul, Int.reduceAdd, Int.reduceSub, Nat.reduceBEq, Nat.reduceMod, Nat.reduceDiv, Nat.reducePow, reduceCtorEq] <;> with_reducible rfl); all_goals (intro h; first | (exfalso; omega) | (simp only [h, decide_true, decide_false, not_true, not_false_iff])))
      | (apply aL_guardP; (· simp (disch := (first | omega | (simp only [List.length_set, List.length_append, List.length_cons, List.length_nil, List.length_take, List.length_drop, List.length_replicate, List.length_map, length_bl]; omega))) only [go_sem, get_miss, Nat.reduceEqDiff, ↓reduceIte, Nat.reduceAdd, Nat.reduceMul, Nat.reduceSub, Nat.reduceLT, Nat.reduceLeDiff, Int.reduceToNat, Int.reducePow, Int.reduceLE, Int.reduceLT, Int.reduceNeg, Int.reduceMul, Int.reduceAdd, Int.reduceSub, Nat.reduceBEq, Nat.reduceMod, Nat.reduceDiv, Nat.reducePow, reduceCtorEq] <;> with_reducible rfl); all_goals (intro h; first | (exfalso; omega) | (simp only [h, decide_true, decide_false, not_true, not_false_iff])))
      | (refine aC_condT ?_ ?_; (· simp (disch := (first | omega | (simp only [List.length_set, List.length_append, List.length_cons, List.length_nil, List.length_take, List.length_drop, List.length_replicate, List.length_map, length_bl]; omega))) only [go_sem, get_miss, Nat.reduceEqDiff, ↓reduceIte, Nat.reduceAdd, Nat.reduceMul, Nat.reduceSub, Nat.reduceLT, Nat.reduceLeDiff, Int.reduceToNat, Int.reducePow, Int.reduceLE, Int.reduceLT, Int.reduceNeg, Int.reduceMul, Int.reduceAdd, Int.reduceSub, Nat.reduceBEq, Nat.reduceMod, Nat.reduceDiv, Nat.reducePow, reduceCtorEq]))
      | (refine aC_condF ?_ ?_; (· simp (disch := (first | omega | (simp only [List.length_set, List.length_append, List.length_cons, List.length_nil, List.length_take, List.length_drop, List.length_replicate, List.length_map, length_bl]; omega))) only [go_sem, get_miss, Nat.reduceEqDiff, ↓reduceIte, Nat.reduceAdd, Nat.reduceMul, Nat.reduceSub, Nat.reduceLT, Nat.reduceLeDiff, Int.reduceToNat, Int.reducePow, Int.reduceLE, Int.reduceLT, Int.reduceNeg, Int.reduceMul, Int.reduceAdd, Int.reduceSub, Nat.reduceBEq, Nat.reduceMod, Nat.reduceDiv, Nat.reducePow, reduceCtorEq]))
      | (refine aC_condP (by simp (disch := (first | omega | (simp only [List.length_set, List.length_append, List.length_cons, List.length_nil, List.length_take, List.length_drop, List.length_replicate, List.length_map, length_bl]; omega))) only [go_sem, get_miss, Nat.reduceEqDiff, ↓reduceIte, Nat.reduceAdd, Nat.reduceMul, Nat.reduceSub, Nat.reduceLT, Nat.reduceLeDiff, Int.reduceToNat, Int.reducePow, Int.reduceLE, Int.reduceLT, Int.reduceNeg, Int.reduceMul, Int.reduceAdd, Int.reduceSub, Nat.reduceBEq, Nat.reduceMod, Nat.reduceDiv, Nat.reducePow, reduceCtorEq] <;> with_reducible rfl) ?_ ?_ <;> (intro h; first | (exfalso; omega) | skip))
      | (apply aL_pure cxG (hmay); (case hg => (simp (disch := (first | omega | (simp only [List.length_set, List.length_append, List.length_cons, List.length_nil, List.length_take, List.length_drop, List.length_replicate, List.length_map, length_bl]; omega))) only [go_sem, get_miss, Nat.reduceEqDiff, ↓reduceIte, Nat.reduceAdd, Nat.reduceMul, Nat.reduceSub, Nat.reduceLT, Nat.reduceLeDiff, Int.reduceToNat, Int.reducePow, Int.reduceLE, Int.reduceLT, Int.reduceNeg, Int.reduceMul, Int.reduceAdd, Int.reduceSub, Nat.reduceBEq, Nat.reduceMod, Nat.reduceDiv, Nat.reducePow, reduceCtorEq])); (case hx => (simp (disch := (first | omega | (simp only [List.length_set, List.length_append, List.length_cons, List.length_nil, List.length_take, List.length_drop, List.length_replicate, List.length_map, length_bl]; omega))) only [go_sem, get_miss, Nat.reduceEqDiff, ↓reduceIte, Nat.reduceAdd, Nat.reduceMul, Nat.reduceSub, Nat.reduceLT, Nat.reduceLeDiff, Int.reduceToNat, Int.reducePow, Int.reduceLE, Int.reduceLT, Int.reduceNeg, Int.reduceMul, Int.reduceAdd, Int.reduceSub, Nat.reduceBEq, Nat.reduceMod, Nat.reduceDiv, Nat.reducePow, reduceCtorEq] <;> with_reducible rfl)); (case ha => (simp (disch := (first | omega | (simp only [List.length_set, List.length_append, List.length_cons, List.length_nil, List.length_take, List.length_drop, List.length_replicate, List.length_map, length_bl]; omega))) only [go_sem, get_miss, Nat.reduceEqDiff, ↓reduceIte, Nat.reduceAdd, Nat.reduceMul, Nat.reduceSub, Nat.reduceLT, Nat.reduceLeDiff, Int.reduceToNat, Int.reducePow, Int.reduceLE, Int.reduceLT, Int.reduceNeg, Int.reduceMul, Int.reduceAdd, Int.reduceSub, Nat.reduceBEq, Nat.reduceMod, Nat.reduceDiv, Nat.reducePow, reduceCtorEq] <;> with_reducible rfl)); (case he => (simp only [go_sem] <;> with_reducible rfl)); (case hcl => (simp)); (case hf => (simp only [go_sem] <;> with_reducible rfl)))
      | fail)
  all_goals try (first | exact True.intro | omega)
  all_goals try (simp (disch := (first | omega | (simp only [List.length_set, List.length_append, List.length_cons, List.length_nil, List.length_take, List.length_drop, List.length_replicate, List.length_map, length_bl]; omega))) only [go_sem, get_miss, Nat.reduceEqDiff, ↓reduceIte, Nat.reduceAdd, Nat.reduceMul, Nat.reduceSub, Nat.reduceLT, Nat.reduceLeDiff, Int.reduceToNat, Int.reducePow, Int.reduceLE, Int.reduceLT, Int.reduceNeg, Int.reduceMul, Int.reduceAdd, Int.reduceSub, Nat.reduceBEq, Nat.reduceMod, Nat.reduceDiv, Nat.reducePow, reduceCtorEq] <;> first | exact True.intro | omega)
  all_goals (clear hmay)
  all_goals try (simp (disch := (first | omega | (simp only [List.length_set, List.length_append, List.length_cons, List.length_nil, List.length_take, List.length_drop, List.length_replicate, List.length_map, length_bl]; omega))) only [go_sem, get_miss, Nat.reduceEqDiff, ↓reduceIte, Nat.reduceAdd, Nat.reduceMul, Nat.reduceSub, Nat.reduceLT, Nat.reduceLeDiff, Int.reduceToNat, Int.reducePow, Int.reduceLE, Int.reduceLT, Int.reduceNeg, Int.reduceMul, Int.reduceAdd, Int.reduceSub, Nat.reduceBEq, Nat.reduceMod, Nat.reduceDiv, Nat.reducePow, reduceCtorEq])
  all_goals try simp
  all_goals try omega
  all_goals try exact fun x hx => ws_clo _ x hx
  all_goals try exact ⟨by omega, fun x hx => ws_clo _ x hx⟩

theorem ref_needs (L : List Int) (d a b imm : Int) (hL : L.length = 9) (h0 : -9223372036854775808 ≤ imm) (h1 : imm ≤ 9223372036854775807) :
    (0 ≤ d → d < 8 → 0 ≤ a → a < 8 → 0 ≤ b → b < 8 → 0 ≤ L.getD b.toNat 0 → L.getD b.toNat 0 ≤ 18446744073709551615 → MayF 11 d a b imm (frm 11).1 (frm 11).2 → APure cx 18 [.agg (ws L), .agg [.int .i64 11, .int .i64 d, .int .i64 a, .int .i64 b, .int .i64 imm]] (.agg [.int .i64 1, .int .u64 (IntKind.u64.wrap ((L.getD a.toNat 0) + IntKind.u64.wrap imm)), .int .u64 0])) ∧
    (0 ≤ d → d < 8 → 0 ≤ a → a < 8 → 0 ≤ b → b < 8 → 0 ≤ L.getD b.toNat 0 → L.getD b.toNat 0 ≤ 18446744073709551615 → MayF 12 d a b imm (frm 12).1 (frm 12).2 → APure cx 18 [.agg (ws L), .agg [.int .i64 12, .int .i64 d, .int .i64 a, .int .i64 b, .int .i64 imm]] (.agg [.int .i64 2, .int .u64 (IntKind.u64.wrap ((L.getD a.toNat 0) + IntKind.u64.wrap imm)), .int .u64 (L.getD b.toNat 0)])) ∧
    (∀ op : Int, 0 ≤ d → d < 8 → 0 ≤ a → a < 8 → 0 ≤ b → b < 8 → 0 ≤ L.getD b.toNat 0 → L.getD b.toNat 0 ≤ 18446744073709551615 → MayF op d a b imm (frm op).1 (frm op).2 → op ≠ 11 → op ≠ 12 → APure cx 18 [.agg (ws L), .agg [.int .i64 op, .int .i64 d, .int .i64 a, .int .i64 b, .int .i64 imm]] (.agg [.int .i64 0, .int .u64 0, .int .u64 0])) ∧
    (∀ op : Int, ¬ MayF op d a b imm (frm op).1 (frm op).2 → APure cx 18 [.agg (ws L), .agg [.int .i64 op, .int .i64 d, .int .i64 a, .int .i64 b, .int .i64 imm]] (.agg [.int .i64 0, .int .u64 0, .int .u64 0])) := by
  refine ⟨fun d0 d8 a0 a8 b0 b8 bn bm hm => ?oload, fun d0 d8 a0 a8 b0 b8 bn bm hm => ?ostore, fun op d0 d8 a0 a8 b0 b8 bn bm hm ho ho2 => ?onone, fun op hm => ?ono⟩
  case' oload =>
    have hmay := ref_may 11 d a b imm
    rw [decide_eq_true hm] at hmay
  case' ostore =>
    have hmay := ref_may 12 d a b imm
    rw [decide_eq_true hm] at hmay
  case' onone =>
    have hmay := ref_may op d a b imm
    rw [decide_eq_true hm] at hmay
  case' ono =>
    have hmay := ref_may op d a b imm
    rw [decide_eq_false hm] at hmay
  all_goals
    refine pure_fn cxOk Tryd.func18 (by kernel_rfl) (fun _ => false) (fe18.q) (by kernel_rfl) (Nat.le_of_ble_eq_true (by kernel_rfl)) ?_
    dsimp only [LB, Tryd.f18, lite, nextOf, Option.isNone, Bool.not_true, Bool.not_false, Bool.and_true, Bool.true_and, Bool.false_and, Bool.and_self, Bool.false_eq_true, if_false, if_true, ↓reduceIte, liteO, List.map, Option.map, frame0, List.zipIdx, Nat.reduceAdd]
    try simp only [List.getElem?_toArray, List.getElem?_cons_succ, List.getElem?_cons_zero, Option.bind_some]
  all_goals
    repeat' (first
      | refine aC_seq ?_
      | refine aC_reg rfl ?_
      | refine aC_block ?_
      | refine aC_skip ?_
      | refine aC_loop ?_
      | refine aC_scope ?_
      | refine scopeQ_normal ?_
      | refine scopeQ_exit ?_
      | refine scopeQ_ret ?_
      | refine aC_exit ?_
      | refine aC_ret ?_
      | refine thenQ_normal ?_
      | refine blockQ_normal ?_
      | refine thenQ_ret ?_
      | refine blockQ_ret ?_
      | refine thenQ_exit ?_
      | refine blockQ_hit ?_
      | refine blockQ_miss rfl ?_
      | refine aL_nil ?_
      | (apply aL_step; (· trivial); (· simp (disch := (first | omega | (simp only [List.length_set, List.length_append, List.length_cons, List.length_nil, List.length_take, List.length_drop, List.length_replicate, List.length_map, length_bl]; omega))) only [go_sem, get_miss, Nat.reduceEqDiff, ↓reduceIte, Nat.reduceAdd, Nat.reduceMul, Nat.reduceSub, Nat.reduceLT, Nat.reduceLeDiff, Int.reduceToNat, Int.reducePow, Int.reduceLE, Int.reduceLT, Int.reduceNeg, Int.reduceMul, Int.reduceAdd, Int.reduceSub, Nat.reduceBEq, Nat.reduceMod, Nat.reduceDiv, Nat.reducePow, reduceCtorEq]); (· simp (disch := (first | omega | (simp only [List.length_set, List.length_append, List.length_cons, List.length_nil, List.length_take, List.length_drop, List.length_replicate, List.length_map, length_bl]; omega))) only [go_sem, get_miss, Nat.reduceEqDiff, ↓reduceIte, Nat.reduceAdd, Nat.reduceMul, Nat.reduceSub, Nat.reduceLT, Nat.reduceLeDiff, Int.reduceToNat, Int.reducePow, Int.reduceLE, Int.reduceLT, Int.reduceNeg, Int.reduceMul, Int.reduceAdd, Int.reduceSub, Nat.reduceBEq, Nat.reduceMod, Nat.reduceDiv, Nat.reducePow, reduceCtorEq] <;> with_reducible rfl); (· simp only [go_sem] <;> with_reducible rfl))
      | (refine aL_skip ?_ (by simp only [go_sem] <;> with_reducible rfl) ?_; (· simp (disch := (first | omega | (simp only [List.length_set, List.length_append, List.length_cons, List.length_nil, List.length_take, List.length_drop, List.length_replicate, List.length_map, length_bl]; omega))) only [go_sem, get_miss, Nat.reduceEqDiff, ↓reduceIte, Nat.reduceAdd, Nat.reduceMul, Nat.reduceSub, Nat.reduceLT, Nat.reduceLeDiff, Int.reduceToNat, Int.reducePow, Int.reduceLE, Int.reduceLT, Int.reduceNeg, Int.reduceMul, Int.reduceAdd, Int.reduceSub, Nat.reduceBEq, Nat.reduceMod, Nat.reduceDiv, Nat.reducePow, reduceCtorEq]))
      | (apply aL_guardN; (· simp (disch := (first | omega | (simp only [List.length_set, List.length_append, List.length_cons, List.length_nil, List.length_take, List.length_drop, List.length_replicate, List.length_map, length_bl]; omega))) only [go_sem, get_miss, Nat.reduceEqDiff, ↓reduceIte, Nat.reduceAdd, Nat.reduceMul, Nat.reduceSub, Nat.reduceLT, Nat.reduceLeDiff, Int.reduceToNat, Int.reducePow, Int.reduceLE, Int.reduceLT, Int.reduceNeg, Int.reduceMul, Int.reduceAdd, Int.reduceSub, Nat.reduceBEq, Nat.reduceMod, Nat.reduceDiv, Nat.reducePow, reduceCtorEq] <;> with_reducible rfl); all_goals (intro h; first | (exfalso; omega) | (simp only [h, decide_true, decide_false, not_true, not_false_iff])))
      | (apply aL_guardP; (· simp (disch := (first | omega | (simp only [List.length_set, List.length_append, List.length_cons, List.length_nil, List.length_take, List.length_drop, List.length_replicate, List.length_map, length_bl]; omega))) only [go_sem, get_miss, Nat.reduceEqDiff, ↓reduceIte, Nat.reduceAdd, Nat.reduceMul, Nat.reduceSub, Nat.reduceLT, Nat.reduceLeDiff, Int.reduceToNat, Int.reducePow, Int.reduceLE, Int.reduceLT, Int.reduceNeg, Int.reduceMul, Int.reduceAdd, Int.reduceSub, Nat.reduceBEq, Nat.reduceMod, Nat.reduceDiv, Nat.reducePow, reduceCtorEq] <;> with_reducible rfl); all_goals (intro h; first | (exfalso; omega) | (simp only [h, decide_true, decide_false, not_true, not_false_iff])))
      | (refine aC_condT ?_ ?_; (· simp (disch := (first | omega | (simp only [List.length_set, List.length_append, List.length_cons, List.length_nil, List.length_take, List.length_drop, List.length_replicate, List.length_map, length_bl]; omega))) only [go_sem, get_miss, Nat.reduceEqDiff, ↓reduceIte, Nat.reduceAdd, Nat.reduceMul, Nat.reduceSub, Nat.reduceLT, Nat.reduceLeDiff, Int.reduceToNat, Int.reducePow, Int.reduceLE, Int.reduceLT, Int.reduceNeg, Int.reduceMul, Int.reduceAdd, Int.reduceSub, Nat.reduceBEq, Nat.reduceMod, Nat.reduceDiv, Nat.reducePow, reduceCtorEq]))
      | (refine aC_condF ?_ ?_; (· simp (disch := (first | omega | (simp only [List.length_set, List.length_append, List.length_cons, List.length_nil, List.length_take, List.length_drop, List.length_replicate, List.length_map, length_bl]; omega))) only [go_sem, get_miss, Nat.reduceEqDiff, ↓reduceIte, Nat.reduceAdd, Nat.reduceMul, Nat.reduceSub, Nat.reduceLT, Nat.reduceLeDiff, Int.reduceToNat, Int.reducePow, Int.reduceLE, Int.reduceLT, Int.reduceNeg, Int.reduceMul, Int.reduceAdd, Int.reduceSub, Nat.reduceBEq, Nat.reduceMod, Nat.reduceDiv, Nat.reducePow, reduceCtorEq]))
      | (refine aC_condP (by simp (disch := (first | omega | (simp only [List.length_set, List.length_append, List.length_cons, List.length_nil, List.length_take, List.length_drop, List.length_replicate, List.length_map, length_bl]; omega))) only [go_sem, get_miss, Nat.reduceEqDiff, ↓reduceIte, Nat.reduceAdd, Nat.reduceMul, Nat.reduceSub, Nat.reduceLT, Nat.reduceLeDiff, Int.reduceToNat, Int.reducePow, Int.reduceLE, Int.reduceLT, Int.reduceNeg, Int.reduceMul, Int.reduceAdd, Int.reduceSub, Nat.reduceBEq, Nat.reduceMod, Nat.reduceDiv, Nat.reducePow, reduceCtorEq] <;> with_reducible rfl) ?_ ?_ <;> (intro h; first | (exfalso; omega) | skip))
      | (apply aL_pure cxG (hmay); (case hg => (simp (disch := (first | omega | (simp only [List.length_set, List.length_append, List.length_cons, List.length_nil, List.length_take, List.length_drop, List.length_replicate, List.length_map, length_bl]; omega))) only [go_sem, get_miss, Nat.reduceEqDiff, ↓reduceIte, Nat.reduceAdd, Nat.reduceMul, Nat.reduceSub, Nat.reduceLT, Nat.reduceLeDiff, Int.reduceToNat, Int.reducePow, Int.reduceLE, Int.reduceLT, Int.reduceNeg, Int.reduceMul, Int.reduceAdd, Int.reduceSub, Nat.reduceBEq, Nat.reduceMod, Nat.reduceDiv, Nat.reducePow, reduceCtorEq])); (case hx => (simp (disch := (first | omega | (simp only [List.length_set, List.length_append, List.length_cons, List.length_nil, List.length_take, List.length_drop, List.length_replicate, List.length_map, length_bl]; omega))) only [go_sem, get_miss, Nat.reduceEqDiff, ↓reduceIte, Nat.reduceAdd, Nat.reduceMul, Nat.reduceSub, Nat.reduceLT, Nat.reduceLeDiff, Int.reduceToNat, Int.reducePow, Int.reduceLE, Int.reduceLT, Int.reduceNeg, Int.reduceMul, Int.reduceAdd, Int.reduceSub, Nat.reduceBEq, Nat.reduceMod, Nat.reduceDiv, Nat.reducePow, reduceCtorEq] <;> with_reducible rfl)); (case ha => (simp (disch := (first | omega | (simp only [List.length_set, List.length_append, List.length_cons, List.length_nil, List.length_take, List.length_drop, List.length_replicate, List.length_map, length_bl]; omega))) only [go_sem, get_miss, Nat.reduceEqDiff, ↓reduceIte, Nat.reduceAdd, Nat.reduceMul, Nat.reduceSub, Nat.reduceLT, Nat.reduceLeDiff, Int.reduceToNat, Int.reducePow, Int.reduceLE, Int.reduceLT, Int.reduceNeg, Int.reduceMul, Int.reduceAdd, Int.reduceSub, Nat.reduceBEq, Nat.reduceMod, Nat.reduceDiv, Nat.reducePow, reduceCtorEq] <;> with_reducible rfl)); (case he => (simp only [go_sem] <;> with_reducible rfl)); (case hcl => (simp)); (case hf => (simp only [go_sem] <;> with_reducible rfl)))
      | fail)
  all_goals try (first | exact True.intro | omega)
  all_goals try (simp (disch := (first | omega | (simp only [List.length_set, List.length_append, List.length_cons, List.length_nil, List.length_take, List.length_drop, List.length_replicate, List.length_map, length_bl]; omega))) only [go_sem, get_miss, Nat.reduceEqDiff, ↓reduceIte, Nat.reduceAdd, Nat.reduceMul, Nat.reduceSub, Nat.reduceLT, Nat.reduceLeDiff, Int.reduceToNat, Int.reducePow, Int.reduceLE, Int.reduceLT, Int.reduceNeg, Int.reduceMul, Int.reduceAdd, Int.reduceSub, Nat.reduceBEq, Nat.reduceMod, Nat.reduceDiv, Nat.reducePow, reduceCtorEq] <;> first | exact True.intro | omega)
  all_goals (clear hmay)
  all_goals try (simp (disch := (first | omega | (simp only [List.length_set, List.length_append, List.length_cons, List.length_nil, List.length_take, List.length_drop, List.length_replicate, List.length_map, length_bl]; omega))) only [go_sem, get_miss, Nat.reduceEqDiff, ↓reduceIte, Nat.reduceAdd, Nat.reduceMul, Nat.reduceSub, Nat.reduceLT, Nat.reduceLeDiff, Int.reduceToNat, Int.reducePow, Int.reduceLE, Int.reduceLT, Int.reduceNeg, Int.reduceMul, Int.reduceAdd, Int.reduceSub, Nat.reduceBEq, Nat.reduceMod, Nat.reduceDiv, Nat.reducePow, reduceCtorEq])
  all_goals try simp
  all_goals try omega
  all_goals try exact fun x hx => ws_clo _ x hx
  all_goals try exact ⟨by omega, fun x hx => ws_clo _ x hx⟩
end Go.Am
