/- ref13.Do, operation by operation. Printed by a program (mkdo.py). -/
import Derived.Test.YtbkfnbnechpolaaDoorC07
import Derived.Test.YtbkfnbnechpolaaDoorAmWalkC
set_option linter.unusedVariables false
set_option linter.unusedSimpArgs false
namespace Go.Am
open Go Go.Proofs
set_option linter.unusedSimpArgs false
set_option linter.unusedVariables false
set_option maxHeartbeats 80000000
set_option maxRecDepth 100000
attribute [local irreducible] aC aL thenQ blockQ scopeQ ALoop AWp
attribute [-go_sem] putCells_eq
attribute [local go_sem] ws_length ws_load ws_take ws_put ws_store ws_drop0 ws_head ws_one ws_closed ws_get8 Nat.mul_one

theorem ref_do_a (L : List Int) (d a b imm ld : Int) (hL : L.length = 9) (h0 : -9223372036854775808 ≤ imm) (h1 : imm ≤ 9223372036854775807) :
    (0 ≤ d → d < 8 → 0 ≤ a → a < 8 → 0 ≤ b → b < 8 → 0 ≤ L.getD b.toNat 0 → L.getD b.toNat 0 ≤ 18446744073709551615 → MayF 1 d a b imm (frm 1).1 (frm 1).2 → APure cx 16 [.agg (ws L), .agg [.int .i64 1, .int .i64 d, .int .i64 a, .int .i64 b, .int .i64 imm], .int .u64 ld] (.tup [.agg (ws (L.set 8 (IntKind.u64.wrap (L.getD 8 0 + 8)))), .agg [.int .i64 0, .int .i64 0]])) ∧
    (0 ≤ d → d < 8 → 0 ≤ a → a < 8 → 0 ≤ b → b < 8 → 0 ≤ L.getD b.toNat 0 → L.getD b.toNat 0 ≤ 18446744073709551615 → MayF 2 d a b imm (frm 2).1 (frm 2).2 → APure cx 16 [.agg (ws L), .agg [.int .i64 2, .int .i64 d, .int .i64 a, .int .i64 b, .int .i64 imm], .int .u64 ld] (.tup [.agg (ws ((L.set 8 (IntKind.u64.wrap (L.getD 8 0 + 8))).set d.toNat (IntKind.u64.wrap imm))), .agg [.int .i64 0, .int .i64 0]])) ∧
    (0 ≤ d → d < 8 → 0 ≤ a → a < 8 → 0 ≤ b → b < 8 → 0 ≤ L.getD b.toNat 0 → L.getD b.toNat 0 ≤ 18446744073709551615 → MayF 3 d a b imm (frm 3).1 (frm 3).2 → APure cx 16 [.agg (ws L), .agg [.int .i64 3, .int .i64 d, .int .i64 a, .int .i64 b, .int .i64 imm], .int .u64 ld] (.tup [.agg (ws ((L.set 8 (IntKind.u64.wrap (L.getD 8 0 + 8))).set d.toNat (L.getD a.toNat 0))), .agg [.int .i64 0, .int .i64 0]])) ∧
    (0 ≤ d → d < 8 → 0 ≤ a → a < 8 → 0 ≤ b → b < 8 → 0 ≤ L.getD b.toNat 0 → L.getD b.toNat 0 ≤ 18446744073709551615 → MayF 4 d a b imm (frm 4).1 (frm 4).2 → APure cx 16 [.agg (ws L), .agg [.int .i64 4, .int .i64 d, .int .i64 a, .int .i64 b, .int .i64 imm], .int .u64 ld] (.tup [.agg (ws ((L.set 8 (IntKind.u64.wrap (L.getD 8 0 + 8))).set d.toNat (IntKind.u64.wrap ((L.getD a.toNat 0) + (L.getD b.toNat 0))))), .agg [.int .i64 0, .int .i64 0]])) ∧
    (0 ≤ d → d < 8 → 0 ≤ a → a < 8 → 0 ≤ b → b < 8 → 0 ≤ L.getD b.toNat 0 → L.getD b.toNat 0 ≤ 18446744073709551615 → MayF 5 d a b imm (frm 5).1 (frm 5).2 → APure cx 16 [.agg (ws L), .agg [.int .i64 5, .int .i64 d, .int .i64 a, .int .i64 b, .int .i64 imm], .int .u64 ld] (.tup [.agg (ws ((L.set 8 (IntKind.u64.wrap (L.getD 8 0 + 8))).set d.toNat (IntKind.u64.wrap ((L.getD a.toNat 0) - (L.getD b.toNat 0))))), .agg [.int .i64 0, .int .i64 0]])) ∧
    (0 ≤ d → d < 8 → 0 ≤ a → a < 8 → 0 ≤ b → b < 8 → 0 ≤ L.getD b.toNat 0 → L.getD b.toNat 0 ≤ 18446744073709551615 → MayF 6 d a b imm (frm 6).1 (frm 6).2 → APure cx 16 [.agg (ws L), .agg [.int .i64 6, .int .i64 d, .int .i64 a, .int .i64 b, .int .i64 imm], .int .u64 ld] (.tup [.agg (ws ((L.set 8 (IntKind.u64.wrap (L.getD 8 0 + 8))).set d.toNat (bits .xor .u64 (L.getD a.toNat 0) (L.getD b.toNat 0)))), .agg [.int .i64 0, .int .i64 0]])) ∧
    (0 ≤ d → d < 8 → 0 ≤ a → a < 8 → 0 ≤ b → b < 8 → 0 ≤ L.getD b.toNat 0 → L.getD b.toNat 0 ≤ 18446744073709551615 → MayF 7 d a b imm (frm 7).1 (frm 7).2 → APure cx 16 [.agg (ws L), .agg [.int .i64 7, .int .i64 d, .int .i64 a, .int .i64 b, .int .i64 imm], .int .u64 ld] (.tup [.agg (ws ((L.set 8 (IntKind.u64.wrap (L.getD 8 0 + 8))).set d.toNat (bits .and .u64 (L.getD a.toNat 0) (L.getD b.toNat 0)))), .agg [.int .i64 0, .int .i64 0]])) ∧
    (0 ≤ d → d < 8 → 0 ≤ a → a < 8 → 0 ≤ b → b < 8 → 0 ≤ L.getD b.toNat 0 → L.getD b.toNat 0 ≤ 18446744073709551615 → MayF 8 d a b imm (frm 8).1 (frm 8).2 → APure cx 16 [.agg (ws L), .agg [.int .i64 8, .int .i64 d, .int .i64 a, .int .i64 b, .int .i64 imm], .int .u64 ld] (.tup [.agg (ws ((L.set 8 (IntKind.u64.wrap (L.getD 8 0 + 8))).set d.toNat (IntKind.u64.wrap ((L.getD a.toNat 0) * (L.getD b.toNat 0))))), .agg [.int .i64 0, .int .i64 0]])) := by
  refine ⟨fun d0 d8 a0 a8 b0 b8 bn bm hm => ?o1, fun d0 d8 a0 a8 b0 b8 bn bm hm => ?o2, fun d0 d8 a0 a8 b0 b8 bn bm hm => ?o3, fun d0 d8 a0 a8 b0 b8 bn bm hm => ?o4, fun d0 d8 a0 a8 b0 b8 bn bm hm => ?o5, fun d0 d8 a0 a8 b0 b8 bn bm hm => ?o6, fun d0 d8 a0 a8 b0 b8 bn bm hm => ?o7, fun d0 d8 a0 a8 b0 b8 bn bm hm => ?o8⟩
  case' o1 =>
    have hmay := ref_may 1 d a b imm
    rw [decide_eq_true hm] at hmay
  case' o2 =>
    have hmay := ref_may 2 d a b imm
    rw [decide_eq_true hm] at hmay
  case' o3 =>
    have hmay := ref_may 3 d a b imm
    rw [decide_eq_true hm] at hmay
  case' o4 =>
    have hmay := ref_may 4 d a b imm
    rw [decide_eq_true hm] at hmay
  case' o5 =>
    have hmay := ref_may 5 d a b imm
    rw [decide_eq_true hm] at hmay
  case' o6 =>
    have hmay := ref_may 6 d a b imm
    rw [decide_eq_true hm] at hmay
  case' o7 =>
    have hmay := ref_may 7 d a b imm
    rw [decide_eq_true hm] at hmay
  case' o8 =>
    have hmay := ref_may 8 d a b imm
    rw [decide_eq_true hm] at hmay
  all_goals
    refine pure_fn cxOk Tryd.func16 (by kernel_rfl) (fun _ => false) (fe16.q) (by kernel_rfl) (Nat.le_of_ble_eq_true (by kernel_rfl)) ?_
    dsimp only [LB, Tryd.f16, lite, nextOf, Option.isNone, Bool.not_true, Bool.not_false, Bool.and_true, Bool.true_and, Bool.false_and, Bool.and_self, Bool.false_eq_true, if_false, if_true, ↓reduceIte, liteO, List.map, Option.map, frame0, List.zipIdx, Nat.reduceAdd]
    try simp only [List.getElem?_toArray, List.getElem?_cons_succ, List.getElem?_cons_zero, Option.bind_some]
  all_goals
    repeat' (first
      | refine aC_seq ?_
      | refine aC_reg rfl ?_
      | refine aC_block ?_
      | refine aC_skip ?_
      | refine aC_loop ?_
      | refine aC_scope ?_
      | refine scopeQ_normal ?_
      | refine scopeQ_exit ?_
      | refine scopeQ_ret ?_
      | refine aC_exit ?_
      | refine aC_ret ?_
      | refine thenQ_normal ?_
      | refine blockQ_normal ?_
      | refine thenQ_ret ?_
      | refine blockQ_ret ?_
      | refine thenQ_exit ?_
      | refine blockQ_hit ?_
      | refine blockQ_miss rfl ?_
      | refine aL_nil ?_
      | (apply aL_step; (· trivial); (· simp (disch := (first | omega | (simp only [List.length_set, List.length_append, List.length_cons, List.length_nil, List.length_take, List.length_drop, List.length_replicate, List.length_map, length_bl]; omega))) only [go_sem, get_miss, Nat.reduceEqDiff, ↓reduceIte, Nat.reduceAdd, Nat.reduceMul, Nat.reduceSub, Nat.reduceLT, Nat.reduceLeDiff, Int.reduceToNat, Int.reducePow, Int.reduceLE, Int.reduceLT, Int.reduceNeg, Int.reduceMul, Int.reduceAdd, Int.reduceSub, Nat.reduceBEq, Nat.reduceMod, Nat.reduceDiv, Nat.reducePow, reduceCtorEq]); (· simp (disch := (first | omega | (simp only [List.length_set, List.length_append, List.length_cons, List.length_nil, List.length_take, List.length_drop, List.length_replicate, List.length_map, length_bl]; omega))) only [go_sem, get_miss, Nat.reduceEqDiff, ↓reduceIte, Nat.reduceAdd, Nat.reduceMul, Nat.reduceSub, Nat.reduceLT, Nat.reduceLeDiff, Int.reduceToNat, Int.reducePow, Int.reduceLE, Int.reduceLT, Int.reduceNeg, Int.reduceMul, Int.reduceAdd, Int.reduceSub, Nat.reduceBEq, Nat.reduceMod, Nat.reduceDiv, Nat.reducePow, reduceCtorEq] <;> with_reducible rfl); (· simp only [go_sem] <;> with_reducible rfl))
      | (refine aL_skip ?_ (by simp only [go_sem] <;> with_reducible rfl) ?_; (· simp (disch := (first | omega | (simp only [List.length_set, List.length_append, List.length_cons, List.length_nil, List.length_take, List.length_drop, List.length_replicate, List.length_map, length_bl]; omega))) only [go_sem, get_miss, Nat.reduceEqDiff, ↓reduceIte, Nat.reduceAdd, Nat.reduceMul, Nat.reduceSub, Nat.reduceLT, Nat.reduceLeDiff, Int.reduceToNat, Int.reducePow, Int.reduceLE, Int.reduceLT, Int.reduceNeg, Int.reduceMul, Int.reduceAdd, Int.reduceSub, Nat.reduceBEq, Nat.reduceMod, Nat.reduceDiv, Nat.reducePow, reduceCtorEq]))
      | (apply aL_guardN; (· simp (disch := (first | omega | (simp only [List.length_set, List.length_append, List.length_cons, List.length_nil, List.length_take, List.length_drop, List.length_replicate, List.length_map, length_bl]; omega))) only [go_sem, get_miss, Nat.reduceEqDiff, ↓reduceIte, Nat.reduceAdd, Nat.reduceMul, Nat.reduceSub, Nat.reduceLT, Nat.reduceLeDiff, Int.reduceToNat, Int.reducePow, Int.reduceLE, Int.reduceLT, Int.reduceNeg, Int.reduceMul, Int.reduceAdd, Int.reduceSub, Nat.reduceBEq, Nat.reduceMod, Nat.reduceDiv, Nat.reducePow, reduceCtorEq] <;> with_reducible rfl); all_goals (intro h; first | (exfalso; omega) | (simp only [h, decide_true, decide_false, not_true, not_false_iff])))
      | (apply aL_guardP; (· simp (disch := (first | omega | (simp only [List.length_set, List.length_append, List.length_cons, List.length_nil, List.length_take, List.length_drop, List.length_replicate, List.length_map, length_bl]; omega))) only [go_sem, get_miss, Nat.reduceEqDiff, ↓reduceIte, Nat.reduceAdd, Nat.reduceMul, Nat.reduceSub, Nat.reduceLT, Nat.reduceLeDiff, Int.reduceToNat, Int.reducePow, Int.reduceLE, Int.reduceLT, Int.reduceNeg, Int.reduceMul, Int.reduceAdd, Int.reduceSub, Nat.reduceBEq, Nat.reduceMod, Nat.reduceDiv, Nat.reducePow, reduceCtorEq] <;> with_reducible rfl); all_goals (intro h; first | (exfalso; omega) | (simp only [h, decide_true, decide_false, not_true, not_false_iff])))
      | (refine aC_condT ?_ ?_; (· simp (disch := (first | omega | (simp only [List.length_set, List.length_append, List.length_cons, List.length_nil, List.length_take, List.length_drop, List.length_replicate, List.length_map, length_bl]; omega))) only [go_sem, get_miss, Nat.reduceEqDiff, ↓reduceIte, Nat.reduceAdd, Nat.reduceMul, Nat.reduceSub, Nat.reduceLT, Nat.reduceLeDiff, Int.reduceToNat, Int.reducePow, Int.reduceLE, Int.reduceLT, Int.reduceNeg, Int.reduceMul, Int.reduceAdd, Int.reduceSub, Nat.reduceBEq, Nat.reduceMod, Nat.reduceDiv, Nat.reducePow, reduceCtorEq]))
      | (refine aC_condF ?_ ?_; (· simp (disch := (first | omega | (simp only [List.length_set, List.length_append, List.length_cons, List.length_nil, List.length_take, List.length_drop, List.length_replicate, List.length_map, length_bl]; omega))) only [go_sem, get_miss, Nat.reduceEqDiff, ↓reduceIte, Nat.reduceAdd, Nat.reduceMul, Nat.reduceSub, Nat.reduceLT, Nat.reduceLeDiff, Int.reduceToNat, Int.reducePow, Int.reduceLE, Int.reduceLT, Int.reduceNeg, Int.reduceMul, Int.reduceAdd, Int.reduceSub, Nat.reduceBEq, Nat.reduceMod, Nat.reduceDiv, Nat.reducePow, reduceCtorEq]))
      | (refine aC_condP (by simp (disch := (first | omega | (simp only [List.length_set, List.length_append, List.length_cons, List.length_nil, List.length_take, List.length_drop, List.length_replicate, List.length_map, length_bl]; omega))) only [go_sem, get_miss, Nat.reduceEqDiff, ↓reduceIte, Nat.reduceAdd, Nat.reduceMul, Nat.reduceSub, Nat.reduceLT, Nat.reduceLeDiff, Int.reduceToNat, Int.reducePow, Int.reduceLE, Int.reduceLT, Int.reduceNeg, Int.reduceMul, Int.reduceAdd, Int.reduceSub, Nat.reduceBEq, Nat.reduceMod, Nat.reduceDiv, Nat.reducePow, reduceCtorEq] <;> with_reducible rfl) ?_ ?_ <;> (intro h; first | (exfalso; omega) | skip))
      | (apply aL_pure cxG (hmay); (case hg => (simp (disch := (first | omega | (simp only [List.length_set, List.length_append, List.length_cons, List.length_nil, List.length_take, List.length_drop, List.length_replicate, List.length_map, length_bl]; omega))) only [go_sem, get_miss, Nat.reduceEqDiff, ↓reduceIte, Nat.reduceAdd, Nat.reduceMul, Nat.reduceSub, Nat.reduceLT, Nat.reduceLeDiff, Int.reduceToNat, Int.reducePow, Int.reduceLE, Int.reduceLT, Int.reduceNeg, Int.reduceMul, Int.reduceAdd, Int.reduceSub, Nat.reduceBEq, Nat.reduceMod, Nat.reduceDiv, Nat.reducePow, reduceCtorEq])); (case hx => (simp (disch := (first | omega | (simp only [List.length_set, List.length_append, List.length_cons, List.length_nil, List.length_take, List.length_drop, List.length_replicate, List.length_map, length_bl]; omega))) only [go_sem, get_miss, Nat.reduceEqDiff, ↓reduceIte, Nat.reduceAdd, Nat.reduceMul, Nat.reduceSub, Nat.reduceLT, Nat.reduceLeDiff, Int.reduceToNat, Int.reducePow, Int.reduceLE, Int.reduceLT, Int.reduceNeg, Int.reduceMul, Int.reduceAdd, Int.reduceSub, Nat.reduceBEq, Nat.reduceMod, Nat.reduceDiv, Nat.reducePow, reduceCtorEq] <;> with_reducible rfl)); (case ha => (simp (disch := (first | omega | (simp only [List.length_set, List.length_append, List.length_cons, List.length_nil, List.length_take, List.length_drop, List.length_replicate, List.length_map, length_bl]; omega))) only [go_sem, get_miss, Nat.reduceEqDiff, ↓reduceIte, Nat.reduceAdd, Nat.reduceMul, Nat.reduceSub, Nat.reduceLT, Nat.reduceLeDiff, Int.reduceToNat, Int.reducePow, Int.reduceLE, Int.reduceLT, Int.reduceNeg, Int.reduceMul, Int.reduceAdd, Int.reduceSub, Nat.reduceBEq, Nat.reduceMod, Nat.reduceDiv, Nat.reducePow, reduceCtorEq] <;> with_reducible rfl)); (case he => (simp only [go_sem] <;> with_reducible rfl)); (case hcl => (simp)); (case hf => (simp only [go_sem] <;> with_reducible rfl)))
      | fail)
  all_goals try (first | exact True.intro | omega)
  all_goals try (simp (disch := (first | omega | (simp only [List.length_set, List.length_append, List.length_cons, List.length_nil, List.length_take, List.length_drop, List.length_replicate, List.length_map, length_bl]; omega))) only [go_sem, get_miss, Nat.reduceEqDiff, ↓reduceIte, Nat.reduceAdd, Nat.reduceMul, Nat.reduceSub, Nat.reduceLT, Nat.reduceLeDiff, Int.reduceToNat, Int.reducePow, Int.reduceLE, Int.reduceLT, Int.reduceNeg, Int.reduceMul, Int.reduceAdd, Int.reduceSub, Nat.reduceBEq, Nat.reduceMod, Nat.reduceDiv, Nat.reducePow, reduceCtorEq] <;> first | exact True.intro | omega)
  all_goals (clear hmay)
  all_goals try clear hl
  all_goals try clear hsum
  all_goals try (simp (disch := (first | omega | (simp only [List.length_set, List.length_append, List.length_cons, List.length_nil, List.length_take, List.length_drop, List.length_replicate, List.length_map, length_bl]; omega))) only [go_sem, get_miss, Nat.reduceEqDiff, ↓reduceIte, Nat.reduceAdd, Nat.reduceMul, Nat.reduceSub, Nat.reduceLT, Nat.reduceLeDiff, Int.reduceToNat, Int.reducePow, Int.reduceLE, Int.reduceLT, Int.reduceNeg, Int.reduceMul, Int.reduceAdd, Int.reduceSub, Nat.reduceBEq, Nat.reduceMod, Nat.reduceDiv, Nat.reducePow, reduceCtorEq])
  all_goals try simp
  all_goals try omega
  all_goals try exact ⟨by omega, fun x hx => ws_clo _ x hx⟩
end Go.Am
