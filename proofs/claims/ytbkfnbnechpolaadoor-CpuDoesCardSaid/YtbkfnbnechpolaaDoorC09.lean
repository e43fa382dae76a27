/- ref13.Do, operation by operation. Printed by a program (mkdo.py). -/
import Derived.Test.YtbkfnbnechpolaaDoorC10
import Derived.Test.YtbkfnbnechpolaaDoorAmWalkC
set_option linter.unusedVariables false
set_option linter.unusedSimpArgs false
namespace Go.Am
open Go Go.Proofs
set_option linter.unusedSimpArgs false
set_option linter.unusedVariables false
set_option maxHeartbeats 80000000
set_option maxRecDepth 100000
attribute [local irreducible] aC aL thenQ blockQ scopeQ ALoop AWp
attribute [-go_sem] putCells_eq
attribute [local go_sem] ws_length ws_load ws_take ws_put ws_store ws_drop0 ws_head ws_one ws_closed ws_get8 Nat.mul_one

theorem ref_do_b (L : List Int) (d a b imm ld : Int) (hL : L.length = 9) (h0 : -9223372036854775808 ≤ imm) (h1 : imm ≤ 9223372036854775807) :
    (0 ≤ d → d < 8 → 0 ≤ a → a < 8 → 0 ≤ b → b < 8 → 0 ≤ L.getD b.toNat 0 → L.getD b.toNat 0 ≤ 18446744073709551615 → MayF 9 d a b imm (frm 9).1 (frm 9).2 → APure cx 16 [.agg (ws L), .agg [.int .i64 9, .int .i64 d, .int .i64 a, .int .i64 b, .int .i64 imm], .int .u64 ld] (.tup [.agg (ws ((L.set 8 (IntKind.u64.wrap (L.getD 8 0 + 8))).set d.toNat (IntKind.u64.wrap ((L.getD a.toNat 0) * 2 ^ (min ((L.getD b.toNat 0).tmod 64).toNat 64))))), .agg [.int .i64 0, .int .i64 0]])) ∧
    (0 ≤ d → d < 8 → 0 ≤ a → a < 8 → 0 ≤ b → b < 8 → 0 ≤ L.getD b.toNat 0 → L.getD b.toNat 0 ≤ 18446744073709551615 → MayF 10 d a b imm (frm 10).1 (frm 10).2 → APure cx 16 [.agg (ws L), .agg [.int .i64 10, .int .i64 d, .int .i64 a, .int .i64 b, .int .i64 imm], .int .u64 ld] (.tup [.agg (ws ((L.set 8 (IntKind.u64.wrap (L.getD 8 0 + 8))).set d.toNat ((L.getD a.toNat 0).fdiv (2 ^ (min ((L.getD b.toNat 0).tmod 64).toNat 64))))), .agg [.int .i64 0, .int .i64 0]])) ∧
    (0 ≤ d → d < 8 → 0 ≤ a → a < 8 → 0 ≤ b → b < 8 → 0 ≤ L.getD b.toNat 0 → L.getD b.toNat 0 ≤ 18446744073709551615 → MayF 11 d a b imm (frm 11).1 (frm 11).2 → APure cx 16 [.agg (ws L), .agg [.int .i64 11, .int .i64 d, .int .i64 a, .int .i64 b, .int .i64 imm], .int .u64 ld] (.tup [.agg (ws ((L.set 8 (IntKind.u64.wrap (L.getD 8 0 + 8))).set d.toNat ld)), .agg [.int .i64 0, .int .i64 0]])) ∧
    (0 ≤ d → d < 8 → 0 ≤ a → a < 8 → 0 ≤ b → b < 8 → 0 ≤ L.getD b.toNat 0 → L.getD b.toNat 0 ≤ 18446744073709551615 → MayF 12 d a b imm (frm 12).1 (frm 12).2 → APure cx 16 [.agg (ws L), .agg [.int .i64 12, .int .i64 d, .int .i64 a, .int .i64 b, .int .i64 imm], .int .u64 ld] (.tup [.agg (ws (L.set 8 (IntKind.u64.wrap (L.getD 8 0 + 8)))), .agg [.int .i64 0, .int .i64 0]])) ∧
    (0 ≤ d → d < 8 → 0 ≤ a → a < 8 → 0 ≤ b → b < 8 → 0 ≤ L.getD b.toNat 0 → L.getD b.toNat 0 ≤ 18446744073709551615 → MayF 13 d a b imm (frm 13).1 (frm 13).2 → APure cx 16 [.agg (ws L), .agg [.int .i64 13, .int .i64 d, .int .i64 a, .int .i64 b, .int .i64 imm], .int .u64 ld] (.tup [.agg (ws ((L.set 8 (IntKind.u64.wrap (L.getD 8 0 + 8))).set 8 (IntKind.u64.wrap ((L.getD 8 0) + IntKind.u64.wrap imm)))), .agg [.int .i64 0, .int .i64 0]])) ∧
    (0 ≤ d → d < 8 → 0 ≤ a → a < 8 → 0 ≤ b → b < 8 → 0 ≤ L.getD b.toNat 0 → L.getD b.toNat 0 ≤ 18446744073709551615 → MayF 14 d a b imm (frm 14).1 (frm 14).2 → L.getD a.toNat 0 ≠ 0 → APure cx 16 [.agg (ws L), .agg [.int .i64 14, .int .i64 d, .int .i64 a, .int .i64 b, .int .i64 imm], .int .u64 ld] (.tup [.agg (ws ((L.set 8 (IntKind.u64.wrap (L.getD 8 0 + 8))).set 8 (IntKind.u64.wrap ((L.getD 8 0) + IntKind.u64.wrap imm)))), .agg [.int .i64 0, .int .i64 0]])) ∧
    (0 ≤ d → d < 8 → 0 ≤ a → a < 8 → 0 ≤ b → b < 8 → 0 ≤ L.getD b.toNat 0 → L.getD b.toNat 0 ≤ 18446744073709551615 → MayF 14 d a b imm (frm 14).1 (frm 14).2 → L.getD a.toNat 0 = 0 → APure cx 16 [.agg (ws L), .agg [.int .i64 14, .int .i64 d, .int .i64 a, .int .i64 b, .int .i64 imm], .int .u64 ld] (.tup [.agg (ws (L.set 8 (IntKind.u64.wrap (L.getD 8 0 + 8)))), .agg [.int .i64 0, .int .i64 0]])) ∧
    (0 ≤ d → d < 8 → 0 ≤ a → a < 8 → 0 ≤ b → b < 8 → 0 ≤ L.getD b.toNat 0 → L.getD b.toNat 0 ≤ 18446744073709551615 → MayF 15 d a b imm (frm 15).1 (frm 15).2 → APure cx 16 [.agg (ws L), .agg [.int .i64 15, .int .i64 d, .int .i64 a, .int .i64 b, .int .i64 imm], .int .u64 ld] (.tup [.agg (ws (L.set 8 (IntKind.u64.wrap (L.getD 8 0 + 8)))), .agg [.int .i64 2, .int .i64 d]])) ∧
    (0 ≤ d → d < 8 → 0 ≤ a → a < 8 → 0 ≤ b → b < 8 → 0 ≤ L.getD b.toNat 0 → L.getD b.toNat 0 ≤ 18446744073709551615 → MayF 16 d a b imm (frm 16).1 (frm 16).2 → APure cx 16 [.agg (ws L), .agg [.int .i64 16, .int .i64 d, .int .i64 a, .int .i64 b, .int .i64 imm], .int .u64 ld] (.tup [.agg (ws (L.set 8 (IntKind.u64.wrap (L.getD 8 0 + 8)))), .agg [.int .i64 1, .int .i64 imm]])) ∧
    (0 ≤ d → d < 8 → 0 ≤ a → a < 8 → 0 ≤ b → b < 8 → 0 ≤ L.getD b.toNat 0 → L.getD b.toNat 0 ≤ 18446744073709551615 → MayF 17 d a b imm (frm 17).1 (frm 17).2 → APure cx 16 [.agg (ws L), .agg [.int .i64 17, .int .i64 d, .int .i64 a, .int .i64 b, .int .i64 imm], .int .u64 ld] (.tup [.agg (ws L), .agg [.int .i64 3, .int .i64 0]])) ∧
    (∀ op : Int, ¬ MayF op d a b imm (frm op).1 (frm op).2 → APure cx 16 [.agg (ws L), .agg [.int .i64 op, .int .i64 d, .int .i64 a, .int .i64 b, .int .i64 imm], .int .u64 ld] (.tup [.agg (ws L), .agg [.int .i64 3, .int .i64 0]])) := by
  refine ⟨fun d0 d8 a0 a8 b0 b8 bn bm hm => ?o9, fun d0 d8 a0 a8 b0 b8 bn bm hm => ?o10, fun d0 d8 a0 a8 b0 b8 bn bm hm => ?o11, fun d0 d8 a0 a8 b0 b8 bn bm hm => ?o12, fun d0 d8 a0 a8 b0 b8 bn bm hm => ?o13, fun d0 d8 a0 a8 b0 b8 bn bm hm hz => ?o14t, fun d0 d8 a0 a8 b0 b8 bn bm hm hz => ?o14f, fun d0 d8 a0 a8 b0 b8 bn bm hm => ?o15, fun d0 d8 a0 a8 b0 b8 bn bm hm => ?o16, fun d0 d8 a0 a8 b0 b8 bn bm hm => ?o17, fun op hm => ?ono⟩
  case' o9 =>
    have hmay := ref_may 9 d a b imm
    rw [decide_eq_true hm] at hmay
  case' o10 =>
    have hmay := ref_may 10 d a b imm
    rw [decide_eq_true hm] at hmay
  case' o11 =>
    have hmay := ref_may 11 d a b imm
    rw [decide_eq_true hm] at hmay
  case' o12 =>
    have hmay := ref_may 12 d a b imm
    rw [decide_eq_true hm] at hmay
  case' o13 =>
    have hmay := ref_may 13 d a b imm
    rw [decide_eq_true hm] at hmay
  case' o14t =>
    have hmay := ref_may 14 d a b imm
    rw [decide_eq_true hm] at hmay
  case' o14f =>
    have hmay := ref_may 14 d a b imm
    rw [decide_eq_true hm] at hmay
  case' o15 =>
    have hmay := ref_may 15 d a b imm
    rw [decide_eq_true hm] at hmay
  case' o16 =>
    have hmay := ref_may 16 d a b imm
    rw [decide_eq_true hm] at hmay
  case' o17 =>
    have hmay := ref_may 17 d a b imm
    rw [decide_eq_true hm] at hmay
  case' ono =>
    have hmay := ref_may op d a b imm
    rw [decide_eq_false hm] at hmay
  all_goals
    refine pure_fn cxOk Tryd.func16 (by kernel_rfl) (fun _ => false) (fe16.q) (by kernel_rfl) (Nat.le_of_ble_eq_true (by kernel_rfl)) ?_
    dsimp only [LB, Tryd.f16, lite, nextOf, Option.isNone, Bool.not_true, Bool.not_false, Bool.and_true, Bool.true_and, Bool.false_and, Bool.and_self, Bool.false_eq_true, if_false, if_true, ↓reduceIte, liteO, List.map, Option.map, frame0, List.zipIdx, Nat.reduceAdd]
    try simp only [List.getElem?_toArray, List.getElem?_cons_succ, List.getElem?_cons_zero, Option.bind_some]
  all_goals
    repeat' (first
      | refine aC_seq ?_
      | refine aC_reg rfl ?_
      | refine aC_block ?_
      | refine aC_skip ?_
      | refine aC_loop ?_
      | refine aC_scope ?_
      | refine scopeQ_normal ?_
      | refine scopeQ_exit ?_
      | refine scopeQ_ret ?_
      | refine aC_exit ?_
      | refine aC_ret ?_
      | refine thenQ_normal ?_
      | refine blockQ_normal ?_
      | refine thenQ_ret ?_
      | refine blockQ_ret ?_
      | refine thenQ_exit ?_
      | refine blockQ_hit ?_
      | refine blockQ_miss rfl ?_
      | refine aL_nil ?_
      | (apply aL_step; (· trivial); (· simp (disch := (first | omega | (simp only [List.length_set, List.length_append, List.length_cons, List.length_nil, List.length_take, List.length_drop, List.length_replicate, List.length_map, length_bl]; omega))) only [go_sem, get_miss, Nat.reduceEqDiff, ↓reduceIte, Nat.reduceAdd, Nat.reduceMul, Nat.reduceSub, Nat.reduceLT, Nat.reduceLeDiff, Int.reduceToNat, Int.reducePow, Int.reduceLE, Int.reduceLT, Int.reduceNeg, Int.reduceMul, Int.reduceAdd, Int.reduceSub, Nat.reduceBEq, Nat.reduceMod, Nat.reduceDiv, Nat.reducePow, reduceCtorEq]); (· simp (disch := (first | omega | (simp only [List.length_set, List.length_append, List.length_cons, List.length_nil, List.length_take, List.length_drop, List.length_replicate, List.length_map, length_bl]; omega))) only [go_sem, get_miss, Nat.reduceEqDiff, ↓reduceIte, Nat.reduceAdd, Nat.reduceMul, Nat.reduceSub, Nat.reduceLT, Nat.reduceLeDiff, Int.reduceToNat, Int.reducePow, Int.reduceLE, Int.reduceLT, Int.reduceNeg, Int.reduceMul, Int.reduceAdd, Int.reduceSub, Nat.reduceBEq, Nat.reduceMod, Nat.reduceDiv, Nat.reducePow, reduceCtorEq] <;> with_reducible rfl); (· simp only [go_sem] <;> with_reducible rfl))
      | (refine aL_skip ?_ (by simp only [go_sem] <;> with_reducible rfl) ?_; (· simp (disch := (first | omega | (simp only [List.length_set, List.length_append, List.length_cons, List.length_nil, List.length_take, List.length_drop, List.length_replicate, List.length_map, length_bl]; omega))) only [go_sem, get_miss, Nat.reduceEqDiff, ↓reduceIte, Nat.reduceAdd, Nat.reduceMul, Nat.reduceSub, Nat.reduceLT, Nat.reduceLeDiff, Int.reduceToNat, Int.reducePow, Int.reduceLE, Int.reduceLT, Int.reduceNeg, Int.reduceMul, Int.reduceAdd, Int.reduceSub, Nat.reduceBEq, Nat.reduceMod, Nat.reduceDiv, Nat.reducePow, reduceCtorEq]))
      | (apply aL_guardN; (· simp (disch := (first | omega | (simp only [List.length_set, List.length_append, List.length_cons, List.length_nil, List.length_take, List.length_drop, List.length_replicate, List.length_map, length_bl]; omega))) only [go_sem, get_miss, Nat.reduceEqDiff, ↓reduceIte, Nat.reduceAdd, Nat.reduceMul, Nat.reduceSub, Nat.reduceLT, Nat.reduceLeDiff, Int.reduceToNat, Int.reducePow, Int.reduceLE, Int.reduceLT, Int.reduceNeg, Int.reduceMul, Int.reduceAdd, Int.reduceSub, Nat.reduceBEq, Nat.reduceMod, Nat.reduceDiv, Nat.reducePow, reduceCtorEq] <;> with_reducible rfl); all_goals (intro h; first | (exfalso; omega) | (simp only [h, decide_true, decide_false, not_true, not_false_iff])))
      | (apply aL_guardP; (· simp (disch := (first | omega | (simp only [List.length_set, List.length_append, List.length_cons, List.length_nil, List.length_take, List.length_drop, List.length_replicate, List.length_map, length_bl]; omega))) only [go_sem, get_miss, Nat.reduceEqDiff, ↓reduceIte, Nat.reduceAdd, Nat.reduceMul, Nat.reduceSub, Nat.reduceLT, Nat.reduceLeDiff, Int.reduceToNat, Int.reducePow, Int.reduceLE, Int.reduceLT, Int.reduceNeg, Int.reduceMul, Int.reduceAdd, Int.reduceSub, Nat.reduceBEq, Nat.reduceMod, Nat.reduceDiv, Nat.reducePow, reduceCtorEq] <;> with_reducible rfl); all_goals (intro h; first | (exfalso; omega) | (simp only [h, decide_true, decide_false, not_true, not_false_iff])))
      | (refine aC_condT ?_ ?_; (· simp (disch := (first | omega | (simp only [List.length_set, List.length_append, List.length_cons, List.length_nil, List.length_take, List.length_drop, List.length_replicate, List.length_map, length_bl]; omega))) only [go_sem, get_miss, Nat.reduceEqDiff, ↓reduceIte, Nat.reduceAdd, Nat.reduceMul, Nat.reduceSub, Nat.reduceLT, Nat.reduceLeDiff, Int.reduceToNat, Int.reducePow, Int.reduceLE, Int.reduceLT, Int.reduceNeg, Int.reduceMul, Int.reduceAdd, Int.reduceSub, Nat.reduceBEq, Nat.reduceMod, Nat.reduceDiv, Nat.reducePow, reduceCtorEq]))
      | (refine aC_condF ?_ ?_; (· simp (disch := (first | omega | (simp only [List.length_set, List.length_append, List.length_cons, List.length_nil, List.length_take, List.length_drop, List.length_replicate, List.length_map, length_bl]; omega))) only [go_sem, get_miss, Nat.reduceEqDiff, ↓reduceIte, Nat.reduceAdd, Nat.reduceMul, Nat.reduceSub, Nat.reduceLT, Nat.reduceLeDiff, Int.reduceToNat, Int.reducePow, Int.reduceLE, Int.reduceLT, Int.reduceNeg, Int.reduceMul, Int.reduceAdd, Int.reduceSub, Nat.reduceBEq, Nat.reduceMod, Nat.reduceDiv, Nat.reducePow, reduceCtorEq]))
      | (refine aC_condP (by simp (disch := (first | omega | (simp only [List.length_set, List.length_append, List.length_cons, List.length_nil, List.length_take, List.length_drop, List.length_replicate, List.length_map, length_bl]; omega))) only [go_sem, get_miss, Nat.reduceEqDiff, ↓reduceIte, Nat.reduceAdd, Nat.reduceMul, Nat.reduceSub, Nat.reduceLT, Nat.reduceLeDiff, Int.reduceToNat, Int.reducePow, Int.reduceLE, Int.reduceLT, Int.reduceNeg, Int.reduceMul, Int.reduceAdd, Int.reduceSub, Nat.reduceBEq, Nat.reduceMod, Nat.reduceDiv, Nat.reducePow, reduceCtorEq] <;> with_reducible rfl) ?_ ?_ <;> (intro h; first | (exfalso; omega) | skip))
      | (apply aL_pure cxG (hmay); (case hg => (simp (disch := (first | omega | (simp only [List.length_set, List.length_append, List.length_cons, List.length_nil, List.length_take, List.length_drop, List.length_replicate, List.length_map, length_bl]; omega))) only [go_sem, get_miss, Nat.reduceEqDiff, ↓reduceIte, Nat.reduceAdd, Nat.reduceMul, Nat.reduceSub, Nat.reduceLT, Nat.reduceLeDiff, Int.reduceToNat, Int.reducePow, Int.reduceLE, Int.reduceLT, Int.reduceNeg, Int.reduceMul, Int.reduceAdd, Int.reduceSub, Nat.reduceBEq, Nat.reduceMod, Nat.reduceDiv, Nat.reducePow, reduceCtorEq])); (case hx => (simp (disch := (first | omega | (simp only [List.length_set, List.length_append, List.length_cons, List.length_nil, List.length_take, List.length_drop, List.length_replicate, List.length_map, length_bl]; omega))) only [go_sem, get_miss, Nat.reduceEqDiff, ↓reduceIte, Nat.reduceAdd, Nat.reduceMul, Nat.reduceSub, Nat.reduceLT, Nat.reduceLeDiff, Int.reduceToNat, Int.reducePow, Int.reduceLE, Int.reduceLT, Int.reduceNeg, Int.reduceMul, Int.reduceAdd, Int.reduceSub, Nat.reduceBEq, Nat.reduceMod, Nat.reduceDiv, Nat.reducePow, reduceCtorEq] <;> with_reducible rfl)); (case ha => (simp (disch := (first | omega | (simp only [List.length_set, List.length_append, List.length_cons, List.length_nil, List.length_take, List.length_drop, List.length_replicate, List.length_map, length_bl]; omega))) only [go_sem, get_miss, Nat.reduceEqDiff, ↓reduceIte, Nat.reduceAdd, Nat.reduceMul, Nat.reduceSub, Nat.reduceLT, Nat.reduceLeDiff, Int.reduceToNat, Int.reducePow, Int.reduceLE, Int.reduceLT, Int.reduceNeg, Int.reduceMul, Int.reduceAdd, Int.reduceSub, Nat.reduceBEq, Nat.reduceMod, Nat.reduceDiv, Nat.reducePow, reduceCtorEq] <;> with_reducible rfl)); (case he => (simp only [go_sem] <;> with_reducible rfl)); (case hcl => (simp)); (case hf => (simp only [go_sem] <;> with_reducible rfl)))
      | fail)
  all_goals try refine aC_regB (U := [(some 150, none)]) rfl [(some 148, 4), (some 150, 1)] ?_
  all_goals try refine aC_regB (U := [(some 156, none)]) rfl [(some 154, 4), (some 156, 1)] ?_
  all_goals
    repeat' (first
      | refine aLB_nil ?_
      | (apply aLB_step; (· trivial); (· exact (by intro h; cases h)); (· rfl); (· simp (disch := (first | omega | (simp only [List.length_set, List.length_append, List.length_cons, List.length_nil, List.length_take, List.length_drop, List.length_replicate, List.length_map, length_bl]; omega))) only [go_sem, get_miss, Nat.reduceEqDiff, ↓reduceIte, Nat.reduceAdd, Nat.reduceMul, Nat.reduceSub, Nat.reduceLT, Nat.reduceLeDiff, Int.reduceToNat, Int.reducePow, Int.reduceLE, Int.reduceLT, Int.reduceNeg, Int.reduceMul, Int.reduceAdd, Int.reduceSub, Nat.reduceBEq, Nat.reduceMod, Nat.reduceDiv, Nat.reducePow, reduceCtorEq]); (· simp (disch := (first | omega | (simp only [List.length_set, List.length_append, List.length_cons, List.length_nil, List.length_take, List.length_drop, List.length_replicate, List.length_map, length_bl]; omega))) only [go_sem, get_miss, Nat.reduceEqDiff, ↓reduceIte, Nat.reduceAdd, Nat.reduceMul, Nat.reduceSub, Nat.reduceLT, Nat.reduceLeDiff, Int.reduceToNat, Int.reducePow, Int.reduceLE, Int.reduceLT, Int.reduceNeg, Int.reduceMul, Int.reduceAdd, Int.reduceSub, Nat.reduceBEq, Nat.reduceMod, Nat.reduceDiv, Nat.reducePow, reduceCtorEq] <;> with_reducible rfl); (· simp only [go_sem] <;> with_reducible rfl); (· (intro b hb; first | (cases hb; done) | (simp (disch := (first | omega | (simp only [List.length_set, List.length_append, List.length_cons, List.length_nil, List.length_take, List.length_drop, List.length_replicate, List.length_map, length_bl]; omega))) only [loadBox, go_sem, get_miss, Nat.reduceEqDiff, ↓reduceIte, Nat.reduceAdd, Nat.reduceMul, Nat.reduceSub, Nat.reduceLT, Nat.reduceLeDiff, Int.reduceToNat, Int.reducePow, Int.reduceLE, Int.reduceLT, Int.reduceNeg, Int.reduceMul, Int.reduceAdd, Int.reduceSub, Nat.reduceBEq, Nat.reduceMod, Nat.reduceDiv, Nat.reducePow, reduceCtorEq] at hb; (try injection hb with hb); subst hb; simp))))
      | (apply aLB_write; (· trivial); (· rfl); (· rfl); (· simp (disch := (first | omega | (simp only [List.length_set, List.length_append, List.length_cons, List.length_nil, List.length_take, List.length_drop, List.length_replicate, List.length_map, length_bl]; omega))) only [go_sem, get_miss, Nat.reduceEqDiff, ↓reduceIte, Nat.reduceAdd, Nat.reduceMul, Nat.reduceSub, Nat.reduceLT, Nat.reduceLeDiff, Int.reduceToNat, Int.reducePow, Int.reduceLE, Int.reduceLT, Int.reduceNeg, Int.reduceMul, Int.reduceAdd, Int.reduceSub, Nat.reduceBEq, Nat.reduceMod, Nat.reduceDiv, Nat.reducePow, reduceCtorEq]); (· simp (disch := (first | omega | (simp only [List.length_set, List.length_append, List.length_cons, List.length_nil, List.length_take, List.length_drop, List.length_replicate, List.length_map, length_bl]; omega))) only [go_sem, get_miss, Nat.reduceEqDiff, ↓reduceIte, Nat.reduceAdd, Nat.reduceMul, Nat.reduceSub, Nat.reduceLT, Nat.reduceLeDiff, Int.reduceToNat, Int.reducePow, Int.reduceLE, Int.reduceLT, Int.reduceNeg, Int.reduceMul, Int.reduceAdd, Int.reduceSub, Nat.reduceBEq, Nat.reduceMod, Nat.reduceDiv, Nat.reducePow, reduceCtorEq] <;> with_reducible rfl); (· simp only [go_sem] <;> with_reducible rfl); (· simp))
      | (refine aLB_skip ?_ (by simp only [go_sem] <;> with_reducible rfl) ?_; (· simp (disch := (first | omega | (simp only [List.length_set, List.length_append, List.length_cons, List.length_nil, List.length_take, List.length_drop, List.length_replicate, List.length_map, length_bl]; omega))) only [go_sem, get_miss, Nat.reduceEqDiff, ↓reduceIte, Nat.reduceAdd, Nat.reduceMul, Nat.reduceSub, Nat.reduceLT, Nat.reduceLeDiff, Int.reduceToNat, Int.reducePow, Int.reduceLE, Int.reduceLT, Int.reduceNeg, Int.reduceMul, Int.reduceAdd, Int.reduceSub, Nat.reduceBEq, Nat.reduceMod, Nat.reduceDiv, Nat.reducePow, reduceCtorEq]))
      | fail)
  all_goals
    repeat' (first
      | refine aC_seq ?_
      | refine aC_reg rfl ?_
      | refine aC_block ?_
      | refine aC_skip ?_
      | refine aC_loop ?_
      | refine aC_scope ?_
      | refine scopeQ_normal ?_
      | refine scopeQ_exit ?_
      | refine scopeQ_ret ?_
      | refine aC_exit ?_
      | refine aC_ret ?_
      | refine thenQ_normal ?_
      | refine blockQ_normal ?_
      | refine thenQ_ret ?_
      | refine blockQ_ret ?_
      | refine thenQ_exit ?_
      | refine blockQ_hit ?_
      | refine blockQ_miss rfl ?_
      | refine aL_nil ?_
      | (apply aL_step; (· trivial); (· simp (disch := (first | omega | (simp only [List.length_set, List.length_append, List.length_cons, List.length_nil, List.length_take, List.length_drop, List.length_replicate, List.length_map, length_bl]; omega))) only [go_sem, get_miss, Nat.reduceEqDiff, ↓reduceIte, Nat.reduceAdd, Nat.reduceMul, Nat.reduceSub, Nat.reduceLT, Nat.reduceLeDiff, Int.reduceToNat, Int.reducePow, Int.reduceLE, Int.reduceLT, Int.reduceNeg, Int.reduceMul, Int.reduceAdd, Int.reduceSub, Nat.reduceBEq, Nat.reduceMod, Nat.reduceDiv, Nat.reducePow, reduceCtorEq]); (· simp (disch := (first | omega | (simp only [List.length_set, List.length_append, List.length_cons, List.length_nil, List.length_take, List.length_drop, List.length_replicate, List.length_map, length_bl]; omega))) only [go_sem, get_miss, Nat.reduceEqDiff, ↓reduceIte, Nat.reduceAdd, Nat.reduceMul, Nat.reduceSub, Nat.reduceLT, Nat.reduceLeDiff, Int.reduceToNat, Int.reducePow, Int.reduceLE, Int.reduceLT, Int.reduceNeg, Int.reduceMul, Int.reduceAdd, Int.reduceSub, Nat.reduceBEq, Nat.reduceMod, Nat.reduceDiv, Nat.reducePow, reduceCtorEq] <;> with_reducible rfl); (· simp only [go_sem] <;> with_reducible rfl))
      | (refine aL_skip ?_ (by simp only [go_sem] <;> with_reducible rfl) ?_; (· simp (disch := (first | omega | (simp only [List.length_set, List.length_append, List.length_cons, List.length_nil, List.length_take, List.length_drop, List.length_replicate, List.length_map, length_bl]; omega))) only [go_sem, get_miss, Nat.reduceEqDiff, ↓reduceIte, Nat.reduceAdd, Nat.reduceMul, Nat.reduceSub, Nat.reduceLT, Nat.reduceLeDiff, Int.reduceToNat, Int.reducePow, Int.reduceLE, Int.reduceLT, Int.reduceNeg, Int.reduceMul, Int.reduceAdd, Int.reduceSub, Nat.reduceBEq, Nat.reduceMod, Nat.reduceDiv, Nat.reducePow, reduceCtorEq]))
      | (apply aL_guardN; (· simp (disch := (first | omega | (simp only [List.length_set, List.length_append, List.length_cons, List.length_nil, List.length_take, List.length_drop, List.length_replicate, List.length_map, length_bl]; omega))) only [go_sem, get_miss, Nat.reduceEqDiff, ↓reduceIte, Nat.reduceAdd, Nat.reduceMul, Nat.reduceSub, Nat.reduceLT, Nat.reduceLeDiff, Int.reduceToNat, Int.reducePow, Int.reduceLE, Int.reduceLT, Int.reduceNeg, Int.reduceMul, Int.reduceAdd, Int.reduceSub, Nat.reduceBEq, Nat.reduceMod, Nat.reduceDiv, Nat.reducePow, reduceCtorEq] <;> with_reducible rfl); all_goals (intro h; first | (exfalso; omega) | (simp only [h, decide_true, decide_false, not_true, not_false_iff])))
      | (apply aL_guardP; (· simp (disch := (first | omega | (simp only [List.length_set, List.length_append, List.length_cons, List.length_nil, List.length_take, List.length_drop, List.length_replicate, List.length_map, length_bl]; omega))) only [go_sem, get_miss, Nat.reduceEqDiff, ↓reduceIte, Nat.reduceAdd, Nat.reduceMul, Nat.reduceSub, Nat.reduceLT, Nat.reduceLeDiff, Int.reduceToNat, Int.reducePow, Int.reduceLE, Int.reduceLT, Int.reduceNeg, Int.reduceMul, Int.reduceAdd, Int.reduceSub, Nat.reduceBEq, Nat.reduceMod, Nat.reduceDiv, Nat.reducePow, reduceCtorEq] <;> with_reducible rfl); all_goals (intro h; first | (exfalso; omega) | (simp only [h, decide_true, decide_false, not_true, not_false_iff])))
      | (refine aC_condT ?_ ?_; (· simp (disch := (first | omega | (simp only [List.length_set, List.length_append, List.length_cons, List.length_nil, List.length_take, List.length_drop, List.length_replicate, List.length_map, length_bl]; omega))) only [go_sem, get_miss, Nat.reduceEqDiff, ↓reduceIte, Nat.reduceAdd, Nat.reduceMul, Nat.reduceSub, Nat.reduceLT, Nat.reduceLeDiff, Int.reduceToNat, Int.reducePow, Int.reduceLE, Int.reduceLT, Int.reduceNeg, Int.reduceMul, Int.reduceAdd, Int.reduceSub, Nat.reduceBEq, Nat.reduceMod, Nat.reduceDiv, Nat.reducePow, reduceCtorEq]))
      | (refine aC_condF ?_ ?_; (· simp (disch := (first | omega | (simp only [List.length_set, List.length_append, List.length_cons, List.length_nil, List.length_take, List.length_drop, List.length_replicate, List.length_map, length_bl]; omega))) only [go_sem, get_miss, Nat.reduceEqDiff, ↓reduceIte, Nat.reduceAdd, Nat.reduceMul, Nat.reduceSub, Nat.reduceLT, Nat.reduceLeDiff, Int.reduceToNat, Int.reducePow, Int.reduceLE, Int.reduceLT, Int.reduceNeg, Int.reduceMul, Int.reduceAdd, Int.reduceSub, Nat.reduceBEq, Nat.reduceMod, Nat.reduceDiv, Nat.reducePow, reduceCtorEq]))
      | (refine aC_condP (by simp (disch := (first | omega | (simp only [List.length_set, List.length_append, List.length_cons, List.length_nil, List.length_take, List.length_drop, List.length_replicate, List.length_map, length_bl]; omega))) only [go_sem, get_miss, Nat.reduceEqDiff, ↓reduceIte, Nat.reduceAdd, Nat.reduceMul, Nat.reduceSub, Nat.reduceLT, Nat.reduceLeDiff, Int.reduceToNat, Int.reducePow, Int.reduceLE, Int.reduceLT, Int.reduceNeg, Int.reduceMul, Int.reduceAdd, Int.reduceSub, Nat.reduceBEq, Nat.reduceMod, Nat.reduceDiv, Nat.reducePow, reduceCtorEq] <;> with_reducible rfl) ?_ ?_ <;> (intro h; first | (exfalso; omega) | skip))
      | fail)
  all_goals try (first | exact True.intro | omega)
  all_goals try (simp (disch := (first | omega | (simp only [List.length_set, List.length_append, List.length_cons, List.length_nil, List.length_take, List.length_drop, List.length_replicate, List.length_map, length_bl]; omega))) only [go_sem, get_miss, Nat.reduceEqDiff, ↓reduceIte, Nat.reduceAdd, Nat.reduceMul, Nat.reduceSub, Nat.reduceLT, Nat.reduceLeDiff, Int.reduceToNat, Int.reducePow, Int.reduceLE, Int.reduceLT, Int.reduceNeg, Int.reduceMul, Int.reduceAdd, Int.reduceSub, Nat.reduceBEq, Nat.reduceMod, Nat.reduceDiv, Nat.reducePow, reduceCtorEq] <;> first | exact True.intro | omega)
  all_goals (clear hmay)
  all_goals try clear hl
  all_goals try clear hsum
  all_goals try (simp (disch := (first | omega | (simp only [List.length_set, List.length_append, List.length_cons, List.length_nil, List.length_take, List.length_drop, List.length_replicate, List.length_map, length_bl]; omega))) only [go_sem, get_miss, Nat.reduceEqDiff, ↓reduceIte, Nat.reduceAdd, Nat.reduceMul, Nat.reduceSub, Nat.reduceLT, Nat.reduceLeDiff, Int.reduceToNat, Int.reducePow, Int.reduceLE, Int.reduceLT, Int.reduceNeg, Int.reduceMul, Int.reduceAdd, Int.reduceSub, Nat.reduceBEq, Nat.reduceMod, Nat.reduceDiv, Nat.reducePow, reduceCtorEq])
  all_goals try simp
  all_goals try omega
  all_goals try exact ⟨by omega, fun x hx => ws_clo _ x hx⟩
end Go.Am
