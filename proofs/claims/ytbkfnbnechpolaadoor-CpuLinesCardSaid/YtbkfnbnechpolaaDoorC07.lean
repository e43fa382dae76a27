/- Registers as a list; ref13.Do. -/
import Derived.Test.YtbkfnbnechpolaaDoorC04
import Derived.Test.YtbkfnbnechpolaaDoorAmWalkC
section
set_option linter.unusedVariables false
set_option linter.unusedSimpArgs false
namespace Go.Am
open Go Go.Proofs
set_option linter.unusedSimpArgs false
set_option linter.unusedVariables false
set_option maxHeartbeats 4000000
set_option maxRecDepth 100000
attribute [local irreducible] aC aL thenQ blockQ scopeQ ALoop AWp

/-- Words, as cells. -/
def ws (l : List Int) : List AVal := l.map fun n => .int .u64 n
theorem ws_length (l : List Int) : (ws l).length = l.length := by simp [ws]
theorem ws_load {l : List Int} {k : Nat} (h : k < l.length) : (List.take 1 (List.drop k (ws l))).headD .any = .int .u64 (l.getD k 0) := by
  have h' : k < (ws l).length := by rw [ws_length]; exact h
  rw [List.drop_eq_getElem_cons h']
  simp [ws, List.getD, h]
theorem ws_take {l : List Int} (h : l.length = 9) : List.take 9 (ws l) = ws l := List.take_of_length_le (by rw [ws_length]; omega)
theorem ws_put {l : List Int} {k : Nat} {v : Int} : putCells (ws l) k [.int .u64 v] = ws (l.set k v) := by
  show (ws l).set k _ = _
  simp [ws, List.map_set]
theorem ws_store {l : List Int} (h : l.length = 9) : putCells (List.replicate 9 (.int .u64 0)) 0 (ws l) = ws l := by
  rw [putCells_eq _ _ _ (by rw [ws_length]; simp; omega), ws_length, h]
  simp
theorem ws_store9 {l : List Int} (h : l.length = 9) : putCells [.int .u64 0, .int .u64 0, .int .u64 0, .int .u64 0, .int .u64 0, .int .u64 0, .int .u64 0, .int .u64 0, .int .u64 0] 0 (ws l) = ws l := ws_store h
theorem ws_one (l : List Int) : (∀ c ∈ ws l, c.one = true) = True := by
  simp [ws, AVal.one]
theorem ws_drop0 (l : List Int) : List.drop 0 (ws l) = ws l := rfl
theorem ws_head {l : List Int} (h : 0 < l.length) : (List.take 1 (ws l)).headD .any = .int .u64 (l.getD 0 0) := ws_load (k := 0) h
theorem ws_closed (l : List Int) : (∀ x ∈ ws l, Closed x) = True := by
  simp [ws]
theorem ws_clo (l : List Int) : ∀ x ∈ ws l, Closed x := by simp [ws]
theorem ws_get8 {l : List Int} {k : Nat} {v : Int} (h : k < 8) : (l.set 8 v).getD k 0 = l.getD k 0 := by
  simp [List.getD, show (8 : Nat) ≠ k by omega]
end Go.Am
end
section
set_option linter.unusedVariables false
set_option linter.unusedSimpArgs false
namespace Go.Am
open Go Go.Proofs
set_option linter.unusedSimpArgs false
set_option linter.unusedVariables false
set_option maxHeartbeats 4000000
set_option maxRecDepth 100000
attribute [local irreducible] aC aL thenQ blockQ scopeQ ALoop AWp

def sm (op : Int) (f : Nat) : AVal × AVal := (.int .i64 op, .fn (.func f) [] [])
def SUMS : List (AVal × AVal) := [sm 3 49, sm 4 50, sm 5 51, sm 6 52, sm 7 53, sm 8 54, sm 9 55, sm 10 56]

theorem cpu_sums (S : St) : ACall cx 36 [] S (.map S.length) (S ++ [.mpx SUMS 8]) :=
  xACallZ_ok tabOk 1000 (e := fe36) (by kernel_rfl) (Nat.zero_le _) (i := 0) (by kernel_rfl) (by kernel_rfl) rfl S

/-- An operation's sum; of none: none. -/
def sumV (op : Int) : AVal :=
  if op = 3 then .fn (.func 49) [] [] else if op = 4 then .fn (.func 50) [] [] else if op = 5 then .fn (.func 51) [] [] else if op = 6 then .fn (.func 52) [] []
  else if op = 7 then .fn (.func 53) [] [] else if op = 8 then .fn (.func 54) [] [] else if op = 9 then .fn (.func 55) [] [] else if op = 10 then .fn (.func 56) [] [] else .nilfn

theorem sum_look (op : Int) : lookV (.int .i64 op) (tagE SUMS) .nilfn = sumV op := by
  rw [lookV_eq]
  by_cases h : op < 3 ∨ 10 < op
  · simp [SUMS, tagE, sm, sumV, aeqs, aeq, AVal.cells, show op ≠ 3 by omega, show op ≠ 4 by omega, show op ≠ 5 by omega, show op ≠ 6 by omega, show op ≠ 7 by omega, show op ≠ 8 by omega, show op ≠ 9 by omega, show op ≠ 10 by omega]
  · rcases (show op = 3 ∨ op = 4 ∨ op = 5 ∨ op = 6 ∨ op = 7 ∨ op = 8 ∨ op = 9 ∨ op = 10 by omega) with rfl | rfl | rfl | rfl | rfl | rfl | rfl | rfl <;> rfl

theorem sum_one (op : Int) : oneX (.int .i64 op) SUMS = true := by
  by_cases h : op < 3 ∨ 10 < op
  · simp [oneX, SUMS, sm, aeqs, aeq, AVal.cells, show op ≠ 3 by omega, show op ≠ 4 by omega, show op ≠ 5 by omega, show op ≠ 6 by omega, show op ≠ 7 by omega, show op ≠ 8 by omega, show op ≠ 9 by omega, show op ≠ 10 by omega]
  · rcases (show op = 3 ∨ op = 4 ∨ op = 5 ∨ op = 6 ∨ op = 7 ∨ op = 8 ∨ op = 9 ∨ op = 10 by omega) with rfl | rfl | rfl | rfl | rfl | rfl | rfl | rfl <;> rfl

theorem sum_keys (op : Int) : keysOk cx 24 (.int .i64 op) (tagE SUMS) := by
  have h : ((tagE SUMS).all fun e => keyFit cx 24 e.1) = true := by kernel_rfl
  exact ⟨by kernel_rfl, fun e he => List.all_eq_true.1 h e he⟩

theorem look_sums (p : FuncId → Bool) (q : Nat → Option UL) {S : St} {b : Nat} (op : Int) (hS : boxX S[b]? = some SUMS) :
    aLookup (cx.wp p q) S 82 (.map b) (.int .i64 op) false = some ⟨keysOk cx 24 (.int .i64 op) (tagE SUMS) ∧ oneX (.int .i64 op) SUMS = true, sumV op, S⟩ := by
  rw [aLookup_X (C := cx.wp p q) (t := 82) (kt := 24) (et := 81) (i := ti82) (j := ti81) T82 rfl T81 hS, ← sum_look op]
  rfl

theorem sums_1 (x y : Int) : APure cx 49 [.int .u64 x, .int .u64 y] (.int .u64 x) := by
  refine pure_fn cxOk Tryd.func49 (by kernel_rfl) (fun _ => false) (fun _ => none) (by kernel_rfl) (Nat.le_of_ble_eq_true (by kernel_rfl)) ?_
  dsimp only [LB, Tryd.f49, lite, nextOf, Option.isNone, Bool.not_true, Bool.not_false, Bool.and_true, Bool.true_and, Bool.false_and, Bool.and_self, Bool.false_eq_true, if_false, if_true, ↓reduceIte, liteO, List.map, Option.map, frame0, List.zipIdx, Nat.reduceAdd]
  try simp only [List.getElem?_toArray, List.getElem?_cons_succ, List.getElem?_cons_zero, Option.bind_some]
  repeat' (first
    | refine aC_seq ?_
    | refine aC_reg rfl ?_
    | refine aC_block ?_
    | refine aC_skip ?_
    | refine aC_loop ?_
    | refine aC_scope ?_
    | refine scopeQ_normal ?_
    | refine scopeQ_exit ?_
    | refine scopeQ_ret ?_
    | refine aC_exit ?_
    | refine aC_ret ?_
    | refine thenQ_normal ?_
    | refine blockQ_normal ?_
    | refine thenQ_ret ?_
    | refine blockQ_ret ?_
    | refine thenQ_exit ?_
    | refine blockQ_hit ?_
    | refine blockQ_miss rfl ?_
    | refine aL_nil ?_
    | (apply aL_step; (· exact True.intro); (· simp (disch := first | omega | (simp only [go_sem]; omega)) only [go_sem, get_miss, seval, reduceCtorEq]); (· simp (disch := first | omega | (simp only [go_sem]; omega)) only [go_sem, get_miss, seval, reduceCtorEq] <;> with_reducible rfl); (· simp only [go_sem] <;> with_reducible rfl))
    | (refine aL_skip ?_ (by simp only [go_sem] <;> with_reducible rfl) ?_; (· simp (disch := first | omega | (simp only [go_sem]; omega)) only [go_sem, get_miss, seval, reduceCtorEq]))
    | (apply aL_guardN; (· simp (disch := first | omega | (simp only [go_sem]; omega)) only [go_sem, get_miss, seval, reduceCtorEq] <;> with_reducible rfl); all_goals (intro h; first | (exfalso; omega) | (simp only [h, decide_true, decide_false, not_true, not_false_iff])))
    | (apply aL_guardP; (· simp (disch := first | omega | (simp only [go_sem]; omega)) only [go_sem, get_miss, seval, reduceCtorEq] <;> with_reducible rfl); all_goals (intro h; first | (exfalso; omega) | (simp only [h, decide_true, decide_false, not_true, not_false_iff])))
    | (refine aC_condT ?_ ?_; (· simp (disch := first | omega | (simp only [go_sem]; omega)) only [go_sem, get_miss, seval, reduceCtorEq]))
    | (refine aC_condF ?_ ?_; (· simp (disch := first | omega | (simp only [go_sem]; omega)) only [go_sem, get_miss, seval, reduceCtorEq]))
    | (refine aC_condP (by simp (disch := first | omega | (simp only [go_sem]; omega)) only [go_sem, get_miss, seval, reduceCtorEq] <;> with_reducible rfl) ?_ ?_ <;> (intro h; first | (exfalso; omega) | skip))
    | fail)
  all_goals try (first | exact True.intro | omega)
  all_goals try (simp (disch := first | omega | (simp only [go_sem]; omega)) only [go_sem, get_miss, seval, reduceCtorEq] <;> first | exact True.intro | omega)
  all_goals try (simp (disch := first | omega | (simp only [go_sem]; omega)) only [go_sem, get_miss, seval, reduceCtorEq])
  all_goals try simp
theorem sums_2 (x y : Int) : APure cx 50 [.int .u64 x, .int .u64 y] (.int .u64 (IntKind.u64.wrap (x + y))) := by
  refine pure_fn cxOk Tryd.func50 (by kernel_rfl) (fun _ => false) (fun _ => none) (by kernel_rfl) (Nat.le_of_ble_eq_true (by kernel_rfl)) ?_
  dsimp only [LB, Tryd.f50, lite, nextOf, Option.isNone, Bool.not_true, Bool.not_false, Bool.and_true, Bool.true_and, Bool.false_and, Bool.and_self, Bool.false_eq_true, if_false, if_true, ↓reduceIte, liteO, List.map, Option.map, frame0, List.zipIdx, Nat.reduceAdd]
  try simp only [List.getElem?_toArray, List.getElem?_cons_succ, List.getElem?_cons_zero, Option.bind_some]
  repeat' (first
    | refine aC_seq ?_
    | refine aC_reg rfl ?_
    | refine aC_block ?_
    | refine aC_skip ?_
    | refine aC_loop ?_
    | refine aC_scope ?_
    | refine scopeQ_normal ?_
    | refine scopeQ_exit ?_
    | refine scopeQ_ret ?_
    | refine aC_exit ?_
    | refine aC_ret ?_
    | refine thenQ_normal ?_
    | refine blockQ_normal ?_
    | refine thenQ_ret ?_
    | refine blockQ_ret ?_
    | refine thenQ_exit ?_
    | refine blockQ_hit ?_
    | refine blockQ_miss rfl ?_
    | refine aL_nil ?_
    | (apply aL_step; (· exact True.intro); (· simp (disch := first | omega | (simp only [go_sem]; omega)) only [go_sem, get_miss, seval, reduceCtorEq]); (· simp (disch := first | omega | (simp only [go_sem]; omega)) only [go_sem, get_miss, seval, reduceCtorEq] <;> with_reducible rfl); (· simp only [go_sem] <;> with_reducible rfl))
    | (refine aL_skip ?_ (by simp only [go_sem] <;> with_reducible rfl) ?_; (· simp (disch := first | omega | (simp only [go_sem]; omega)) only [go_sem, get_miss, seval, reduceCtorEq]))
    | (apply aL_guardN; (· simp (disch := first | omega | (simp only [go_sem]; omega)) only [go_sem, get_miss, seval, reduceCtorEq] <;> with_reducible rfl); all_goals (intro h; first | (exfalso; omega) | (simp only [h, decide_true, decide_false, not_true, not_false_iff])))
    | (apply aL_guardP; (· simp (disch := first | omega | (simp only [go_sem]; omega)) only [go_sem, get_miss, seval, reduceCtorEq] <;> with_reducible rfl); all_goals (intro h; first | (exfalso; omega) | (simp only [h, decide_true, decide_false, not_true, not_false_iff])))
    | (refine aC_condT ?_ ?_; (· simp (disch := first | omega | (simp only [go_sem]; omega)) only [go_sem, get_miss, seval, reduceCtorEq]))
    | (refine aC_condF ?_ ?_; (· simp (disch := first | omega | (simp only [go_sem]; omega)) only [go_sem, get_miss, seval, reduceCtorEq]))
    | (refine aC_condP (by simp (disch := first | omega | (simp only [go_sem]; omega)) only [go_sem, get_miss, seval, reduceCtorEq] <;> with_reducible rfl) ?_ ?_ <;> (intro h; first | (exfalso; omega) | skip))
    | fail)
  all_goals try (first | exact True.intro | omega)
  all_goals try (simp (disch := first | omega | (simp only [go_sem]; omega)) only [go_sem, get_miss, seval, reduceCtorEq] <;> first | exact True.intro | omega)
  all_goals try (simp (disch := first | omega | (simp only [go_sem]; omega)) only [go_sem, get_miss, seval, reduceCtorEq])
  all_goals try simp
theorem sums_3 (x y : Int) : APure cx 51 [.int .u64 x, .int .u64 y] (.int .u64 (IntKind.u64.wrap (x - y))) := by
  refine pure_fn cxOk Tryd.func51 (by kernel_rfl) (fun _ => false) (fun _ => none) (by kernel_rfl) (Nat.le_of_ble_eq_true (by kernel_rfl)) ?_
  dsimp only [LB, Tryd.f51, lite, nextOf, Option.isNone, Bool.not_true, Bool.not_false, Bool.and_true, Bool.true_and, Bool.false_and, Bool.and_self, Bool.false_eq_true, if_false, if_true, ↓reduceIte, liteO, List.map, Option.map, frame0, List.zipIdx, Nat.reduceAdd]
  try simp only [List.getElem?_toArray, List.getElem?_cons_succ, List.getElem?_cons_zero, Option.bind_some]
  repeat' (first
    | refine aC_seq ?_
    | refine aC_reg rfl ?_
    | refine aC_block ?_
    | refine aC_skip ?_
    | refine aC_loop ?_
    | refine aC_scope ?_
    | refine scopeQ_normal ?_
    | refine scopeQ_exit ?_
    | refine scopeQ_ret ?_
    | refine aC_exit ?_
    | refine aC_ret ?_
    | refine thenQ_normal ?_
    | refine blockQ_normal ?_
    | refine thenQ_ret ?_
    | refine blockQ_ret ?_
    | refine thenQ_exit ?_
    | refine blockQ_hit ?_
    | refine blockQ_miss rfl ?_
    | refine aL_nil ?_
    | (apply aL_step; (· exact True.intro); (· simp (disch := first | omega | (simp only [go_sem]; omega)) only [go_sem, get_miss, seval, reduceCtorEq]); (· simp (disch := first | omega | (simp only [go_sem]; omega)) only [go_sem, get_miss, seval, reduceCtorEq] <;> with_reducible rfl); (· simp only [go_sem] <;> with_reducible rfl))
    | (refine aL_skip ?_ (by simp only [go_sem] <;> with_reducible rfl) ?_; (· simp (disch := first | omega | (simp only [go_sem]; omega)) only [go_sem, get_miss, seval, reduceCtorEq]))
    | (apply aL_guardN; (· simp (disch := first | omega | (simp only [go_sem]; omega)) only [go_sem, get_miss, seval, reduceCtorEq] <;> with_reducible rfl); all_goals (intro h; first | (exfalso; omega) | (simp only [h, decide_true, decide_false, not_true, not_false_iff])))
    | (apply aL_guardP; (· simp (disch := first | omega | (simp only [go_sem]; omega)) only [go_sem, get_miss, seval, reduceCtorEq] <;> with_reducible rfl); all_goals (intro h; first | (exfalso; omega) | (simp only [h, decide_true, decide_false, not_true, not_false_iff])))
    | (refine aC_condT ?_ ?_; (· simp (disch := first | omega | (simp only [go_sem]; omega)) only [go_sem, get_miss, seval, reduceCtorEq]))
    | (refine aC_condF ?_ ?_; (· simp (disch := first | omega | (simp only [go_sem]; omega)) only [go_sem, get_miss, seval, reduceCtorEq]))
    | (refine aC_condP (by simp (disch := first | omega | (simp only [go_sem]; omega)) only [go_sem, get_miss, seval, reduceCtorEq] <;> with_reducible rfl) ?_ ?_ <;> (intro h; first | (exfalso; omega) | skip))
    | fail)
  all_goals try (first | exact True.intro | omega)
  all_goals try (simp (disch := first | omega | (simp only [go_sem]; omega)) only [go_sem, get_miss, seval, reduceCtorEq] <;> first | exact True.intro | omega)
  all_goals try (simp (disch := first | omega | (simp only [go_sem]; omega)) only [go_sem, get_miss, seval, reduceCtorEq])
  all_goals try simp
theorem sums_4 (x y : Int) : APure cx 52 [.int .u64 x, .int .u64 y] (.int .u64 (bits .xor .u64 x y)) := by
  refine pure_fn cxOk Tryd.func52 (by kernel_rfl) (fun _ => false) (fun _ => none) (by kernel_rfl) (Nat.le_of_ble_eq_true (by kernel_rfl)) ?_
  dsimp only [LB, Tryd.f52, lite, nextOf, Option.isNone, Bool.not_true, Bool.not_false, Bool.and_true, Bool.true_and, Bool.false_and, Bool.and_self, Bool.false_eq_true, if_false, if_true, ↓reduceIte, liteO, List.map, Option.map, frame0, List.zipIdx, Nat.reduceAdd]
  try simp only [List.getElem?_toArray, List.getElem?_cons_succ, List.getElem?_cons_zero, Option.bind_some]
  repeat' (first
    | refine aC_seq ?_
    | refine aC_reg rfl ?_
    | refine aC_block ?_
    | refine aC_skip ?_
    | refine aC_loop ?_
    | refine aC_scope ?_
    | refine scopeQ_normal ?_
    | refine scopeQ_exit ?_
    | refine scopeQ_ret ?_
    | refine aC_exit ?_
    | refine aC_ret ?_
    | refine thenQ_normal ?_
    | refine blockQ_normal ?_
    | refine thenQ_ret ?_
    | refine blockQ_ret ?_
    | refine thenQ_exit ?_
    | refine blockQ_hit ?_
    | refine blockQ_miss rfl ?_
    | refine aL_nil ?_
    | (apply aL_step; (· exact True.intro); (· simp (disch := first | omega | (simp only [go_sem]; omega)) only [go_sem, get_miss, seval, reduceCtorEq]); (· simp (disch := first | omega | (simp only [go_sem]; omega)) only [go_sem, get_miss, seval, reduceCtorEq] <;> with_reducible rfl); (· simp only [go_sem] <;> with_reducible rfl))
    | (refine aL_skip ?_ (by simp only [go_sem] <;> with_reducible rfl) ?_; (· simp (disch := first | omega | (simp only [go_sem]; omega)) only [go_sem, get_miss, seval, reduceCtorEq]))
    | (apply aL_guardN; (· simp (disch := first | omega | (simp only [go_sem]; omega)) only [go_sem, get_miss, seval, reduceCtorEq] <;> with_reducible rfl); all_goals (intro h; first | (exfalso; omega) | (simp only [h, decide_true, decide_false, not_true, not_false_iff])))
    | (apply aL_guardP; (· simp (disch := first | omega | (simp only [go_sem]; omega)) only [go_sem, get_miss, seval, reduceCtorEq] <;> with_reducible rfl); all_goals (intro h; first | (exfalso; omega) | (simp only [h, decide_true, decide_false, not_true, not_false_iff])))
    | (refine aC_condT ?_ ?_; (· simp (disch := first | omega | (simp only [go_sem]; omega)) only [go_sem, get_miss, seval, reduceCtorEq]))
    | (refine aC_condF ?_ ?_; (· simp (disch := first | omega | (simp only [go_sem]; omega)) only [go_sem, get_miss, seval, reduceCtorEq]))
    | (refine aC_condP (by simp (disch := first | omega | (simp only [go_sem]; omega)) only [go_sem, get_miss, seval, reduceCtorEq] <;> with_reducible rfl) ?_ ?_ <;> (intro h; first | (exfalso; omega) | skip))
    | fail)
  all_goals try (first | exact True.intro | omega)
  all_goals try (simp (disch := first | omega | (simp only [go_sem]; omega)) only [go_sem, get_miss, seval, reduceCtorEq] <;> first | exact True.intro | omega)
  all_goals try (simp (disch := first | omega | (simp only [go_sem]; omega)) only [go_sem, get_miss, seval, reduceCtorEq])
  all_goals try simp
theorem sums_5 (x y : Int) : APure cx 53 [.int .u64 x, .int .u64 y] (.int .u64 (bits .and .u64 x y)) := by
  refine pure_fn cxOk Tryd.func53 (by kernel_rfl) (fun _ => false) (fun _ => none) (by kernel_rfl) (Nat.le_of_ble_eq_true (by kernel_rfl)) ?_
  dsimp only [LB, Tryd.f53, lite, nextOf, Option.isNone, Bool.not_true, Bool.not_false, Bool.and_true, Bool.true_and, Bool.false_and, Bool.and_self, Bool.false_eq_true, if_false, if_true, ↓reduceIte, liteO, List.map, Option.map, frame0, List.zipIdx, Nat.reduceAdd]
  try simp only [List.getElem?_toArray, List.getElem?_cons_succ, List.getElem?_cons_zero, Option.bind_some]
  repeat' (first
    | refine aC_seq ?_
    | refine aC_reg rfl ?_
    | refine aC_block ?_
    | refine aC_skip ?_
    | refine aC_loop ?_
    | refine aC_scope ?_
    | refine scopeQ_normal ?_
    | refine scopeQ_exit ?_
    | refine scopeQ_ret ?_
    | refine aC_exit ?_
    | refine aC_ret ?_
    | refine thenQ_normal ?_
    | refine blockQ_normal ?_
    | refine thenQ_ret ?_
    | refine blockQ_ret ?_
    | refine thenQ_exit ?_
    | refine blockQ_hit ?_
    | refine blockQ_miss rfl ?_
    | refine aL_nil ?_
    | (apply aL_step; (· exact True.intro); (· simp (disch := first | omega | (simp only [go_sem]; omega)) only [go_sem, get_miss, seval, reduceCtorEq]); (· simp (disch := first | omega | (simp only [go_sem]; omega)) only [go_sem, get_miss, seval, reduceCtorEq] <;> with_reducible rfl); (· simp only [go_sem] <;> with_reducible rfl))
    | (refine aL_skip ?_ (by simp only [go_sem] <;> with_reducible rfl) ?_; (· simp (disch := first | omega | (simp only [go_sem]; omega)) only [go_sem, get_miss, seval, reduceCtorEq]))
    | (apply aL_guardN; (· simp (disch := first | omega | (simp only [go_sem]; omega)) only [go_sem, get_miss, seval, reduceCtorEq] <;> with_reducible rfl); all_goals (intro h; first | (exfalso; omega) | (simp only [h, decide_true, decide_false, not_true, not_false_iff])))
    | (apply aL_guardP; (· simp (disch := first | omega | (simp only [go_sem]; omega)) only [go_sem, get_miss, seval, reduceCtorEq] <;> with_reducible rfl); all_goals (intro h; first | (exfalso; omega) | (simp only [h, decide_true, decide_false, not_true, not_false_iff])))
    | (refine aC_condT ?_ ?_; (· simp (disch := first | omega | (simp only [go_sem]; omega)) only [go_sem, get_miss, seval, reduceCtorEq]))
    | (refine aC_condF ?_ ?_; (· simp (disch := first | omega | (simp only [go_sem]; omega)) only [go_sem, get_miss, seval, reduceCtorEq]))
    | (refine aC_condP (by simp (disch := first | omega | (simp only [go_sem]; omega)) only [go_sem, get_miss, seval, reduceCtorEq] <;> with_reducible rfl) ?_ ?_ <;> (intro h; first | (exfalso; omega) | skip))
    | fail)
  all_goals try (first | exact True.intro | omega)
  all_goals try (simp (disch := first | omega | (simp only [go_sem]; omega)) only [go_sem, get_miss, seval, reduceCtorEq] <;> first | exact True.intro | omega)
  all_goals try (simp (disch := first | omega | (simp only [go_sem]; omega)) only [go_sem, get_miss, seval, reduceCtorEq])
  all_goals try simp
theorem sums_6 (x y : Int) : APure cx 54 [.int .u64 x, .int .u64 y] (.int .u64 (IntKind.u64.wrap (x * y))) := by
  refine pure_fn cxOk Tryd.func54 (by kernel_rfl) (fun _ => false) (fun _ => none) (by kernel_rfl) (Nat.le_of_ble_eq_true (by kernel_rfl)) ?_
  dsimp only [LB, Tryd.f54, lite, nextOf, Option.isNone, Bool.not_true, Bool.not_false, Bool.and_true, Bool.true_and, Bool.false_and, Bool.and_self, Bool.false_eq_true, if_false, if_true, ↓reduceIte, liteO, List.map, Option.map, frame0, List.zipIdx, Nat.reduceAdd]
  try simp only [List.getElem?_toArray, List.getElem?_cons_succ, List.getElem?_cons_zero, Option.bind_some]
  repeat' (first
    | refine aC_seq ?_
    | refine aC_reg rfl ?_
    | refine aC_block ?_
    | refine aC_skip ?_
    | refine aC_loop ?_
    | refine aC_scope ?_
    | refine scopeQ_normal ?_
    | refine scopeQ_exit ?_
    | refine scopeQ_ret ?_
    | refine aC_exit ?_
    | refine aC_ret ?_
    | refine thenQ_normal ?_
    | refine blockQ_normal ?_
    | refine thenQ_ret ?_
    | refine blockQ_ret ?_
    | refine thenQ_exit ?_
    | refine blockQ_hit ?_
    | refine blockQ_miss rfl ?_
    | refine aL_nil ?_
    | (apply aL_step; (· exact True.intro); (· simp (disch := first | omega | (simp only [go_sem]; omega)) only [go_sem, get_miss, seval, reduceCtorEq]); (· simp (disch := first | omega | (simp only [go_sem]; omega)) only [go_sem, get_miss, seval, reduceCtorEq] <;> with_reducible rfl); (· simp only [go_sem] <;> with_reducible rfl))
    | (refine aL_skip ?_ (by simp only [go_sem] <;> with_reducible rfl) ?_; (· simp (disch := first | omega | (simp only [go_sem]; omega)) only [go_sem, get_miss, seval, reduceCtorEq]))
    | (apply aL_guardN; (· simp (disch := first | omega | (simp only [go_sem]; omega)) only [go_sem, get_miss, seval, reduceCtorEq] <;> with_reducible rfl); all_goals (intro h; first | (exfalso; omega) | (simp only [h, decide_true, decide_false, not_true, not_false_iff])))
    | (apply aL_guardP; (· simp (disch := first | omega | (simp only [go_sem]; omega)) only [go_sem, get_miss, seval, reduceCtorEq] <;> with_reducible rfl); all_goals (intro h; first | (exfalso; omega) | (simp only [h, decide_true, decide_false, not_true, not_false_iff])))
    | (refine aC_condT ?_ ?_; (· simp (disch := first | omega | (simp only [go_sem]; omega)) only [go_sem, get_miss, seval, reduceCtorEq]))
    | (refine aC_condF ?_ ?_; (· simp (disch := first | omega | (simp only [go_sem]; omega)) only [go_sem, get_miss, seval, reduceCtorEq]))
    | (refine aC_condP (by simp (disch := first | omega | (simp only [go_sem]; omega)) only [go_sem, get_miss, seval, reduceCtorEq] <;> with_reducible rfl) ?_ ?_ <;> (intro h; first | (exfalso; omega) | skip))
    | fail)
  all_goals try (first | exact True.intro | omega)
  all_goals try (simp (disch := first | omega | (simp only [go_sem]; omega)) only [go_sem, get_miss, seval, reduceCtorEq] <;> first | exact True.intro | omega)
  all_goals try (simp (disch := first | omega | (simp only [go_sem]; omega)) only [go_sem, get_miss, seval, reduceCtorEq])
  all_goals try simp

theorem and_63 {y : Int} (h0 : 0 ≤ y) (h1 : y ≤ 18446744073709551615) : bits .and .u64 y 63 = y.tmod 64 := by
  have h := bits_and_u64_nat y.toNat 63 (by omega) (by omega)
  have h2 : y.toNat &&& 63 = y.toNat % 64 := Nat.and_two_pow_sub_one_eq_mod y.toNat 6
  rw [h2, Int.toNat_of_nonneg h0] at h
  have h3 : ((63 : Nat) : Int) = 63 := rfl
  rw [h3] at h
  rw [h, Int.tmod_eq_emod_of_nonneg h0]
  omega

theorem sums_7 (x y : Int) (h0 : 0 ≤ y) (h1 : y ≤ 18446744073709551615) : APure cx 55 [.int .u64 x, .int .u64 y] (.int .u64 (IntKind.u64.wrap (x * 2 ^ (min (y.tmod 64).toNat 64)))) := by
  have e := and_63 h0 h1
  have e2 : 0 ≤ y.tmod 64 := by rw [Int.tmod_eq_emod_of_nonneg h0]; omega
  refine pure_fn cxOk Tryd.func55 (by kernel_rfl) (fun _ => false) (fun _ => none) (by kernel_rfl) (Nat.le_of_ble_eq_true (by kernel_rfl)) ?_
  dsimp only [LB, Tryd.f55, lite, nextOf, Option.isNone, Bool.not_true, Bool.not_false, Bool.and_true, Bool.true_and, Bool.false_and, Bool.and_self, Bool.false_eq_true, if_false, if_true, ↓reduceIte, liteO, List.map, Option.map, frame0, List.zipIdx, Nat.reduceAdd]
  try simp only [List.getElem?_toArray, List.getElem?_cons_succ, List.getElem?_cons_zero, Option.bind_some]
  repeat' (first
    | refine aC_seq ?_
    | refine aC_reg rfl ?_
    | refine aC_block ?_
    | refine aC_skip ?_
    | refine aC_loop ?_
    | refine aC_scope ?_
    | refine scopeQ_normal ?_
    | refine scopeQ_exit ?_
    | refine scopeQ_ret ?_
    | refine aC_exit ?_
    | refine aC_ret ?_
    | refine thenQ_normal ?_
    | refine blockQ_normal ?_
    | refine thenQ_ret ?_
    | refine blockQ_ret ?_
    | refine thenQ_exit ?_
    | refine blockQ_hit ?_
    | refine blockQ_miss rfl ?_
    | refine aL_nil ?_
    | (apply aL_step; (· exact True.intro); (· simp (disch := first | omega | (simp only [go_sem]; omega)) only [go_sem, get_miss, seval, reduceCtorEq, e]); (· simp (disch := first | omega | (simp only [go_sem]; omega)) only [go_sem, get_miss, seval, reduceCtorEq, e] <;> with_reducible rfl); (· simp only [go_sem] <;> with_reducible rfl))
    | (refine aL_skip ?_ (by simp only [go_sem] <;> with_reducible rfl) ?_; (· simp (disch := first | omega | (simp only [go_sem]; omega)) only [go_sem, get_miss, seval, reduceCtorEq, e]))
    | (apply aL_guardN; (· simp (disch := first | omega | (simp only [go_sem]; omega)) only [go_sem, get_miss, seval, reduceCtorEq, e] <;> with_reducible rfl); all_goals (intro h; first | (exfalso; omega) | (simp only [h, decide_true, decide_false, not_true, not_false_iff])))
    | (apply aL_guardP; (· simp (disch := first | omega | (simp only [go_sem]; omega)) only [go_sem, get_miss, seval, reduceCtorEq, e] <;> with_reducible rfl); all_goals (intro h; first | (exfalso; omega) | (simp only [h, decide_true, decide_false, not_true, not_false_iff])))
    | (refine aC_condT ?_ ?_; (· simp (disch := first | omega | (simp only [go_sem]; omega)) only [go_sem, get_miss, seval, reduceCtorEq, e]))
    | (refine aC_condF ?_ ?_; (· simp (disch := first | omega | (simp only [go_sem]; omega)) only [go_sem, get_miss, seval, reduceCtorEq, e]))
    | (refine aC_condP (by simp (disch := first | omega | (simp only [go_sem]; omega)) only [go_sem, get_miss, seval, reduceCtorEq, e] <;> with_reducible rfl) ?_ ?_ <;> (intro h; first | (exfalso; omega) | skip))
    | fail)
  all_goals try (first | exact True.intro | omega)
  all_goals try (simp (disch := first | omega | (simp only [go_sem]; omega)) only [go_sem, get_miss, seval, reduceCtorEq] <;> first | exact True.intro | omega)
  all_goals try (simp (disch := first | omega | (simp only [go_sem]; omega)) only [go_sem, get_miss, seval, reduceCtorEq, e])
  all_goals try simp
  all_goals try omega
theorem sums_8 (x y : Int) (h0 : 0 ≤ y) (h1 : y ≤ 18446744073709551615) : APure cx 56 [.int .u64 x, .int .u64 y] (.int .u64 (x.fdiv (2 ^ (min (y.tmod 64).toNat 64)))) := by
  have e := and_63 h0 h1
  have e2 : 0 ≤ y.tmod 64 := by rw [Int.tmod_eq_emod_of_nonneg h0]; omega
  refine pure_fn cxOk Tryd.func56 (by kernel_rfl) (fun _ => false) (fun _ => none) (by kernel_rfl) (Nat.le_of_ble_eq_true (by kernel_rfl)) ?_
  dsimp only [LB, Tryd.f56, lite, nextOf, Option.isNone, Bool.not_true, Bool.not_false, Bool.and_true, Bool.true_and, Bool.false_and, Bool.and_self, Bool.false_eq_true, if_false, if_true, ↓reduceIte, liteO, List.map, Option.map, frame0, List.zipIdx, Nat.reduceAdd]
  try simp only [List.getElem?_toArray, List.getElem?_cons_succ, List.getElem?_cons_zero, Option.bind_some]
  repeat' (first
    | refine aC_seq ?_
    | refine aC_reg rfl ?_
    | refine aC_block ?_
    | refine aC_skip ?_
    | refine aC_loop ?_
    | refine aC_scope ?_
    | refine scopeQ_normal ?_
    | refine scopeQ_exit ?_
    | refine scopeQ_ret ?_
    | refine aC_exit ?_
    | refine aC_ret ?_
    | refine thenQ_normal ?_
    | refine blockQ_normal ?_
    | refine thenQ_ret ?_
    | refine blockQ_ret ?_
    | refine thenQ_exit ?_
    | refine blockQ_hit ?_
    | refine blockQ_miss rfl ?_
    | refine aL_nil ?_
    | (apply aL_step; (· exact True.intro); (· simp (disch := first | omega | (simp only [go_sem]; omega)) only [go_sem, get_miss, seval, reduceCtorEq, e]); (· simp (disch := first | omega | (simp only [go_sem]; omega)) only [go_sem, get_miss, seval, reduceCtorEq, e] <;> with_reducible rfl); (· simp only [go_sem] <;> with_reducible rfl))
    | (refine aL_skip ?_ (by simp only [go_sem] <;> with_reducible rfl) ?_; (· simp (disch := first | omega | (simp only [go_sem]; omega)) only [go_sem, get_miss, seval, reduceCtorEq, e]))
    | (apply aL_guardN; (· simp (disch := first | omega | (simp only [go_sem]; omega)) only [go_sem, get_miss, seval, reduceCtorEq, e] <;> with_reducible rfl); all_goals (intro h; first | (exfalso; omega) | (simp only [h, decide_true, decide_false, not_true, not_false_iff])))
    | (apply aL_guardP; (· simp (disch := first | omega | (simp only [go_sem]; omega)) only [go_sem, get_miss, seval, reduceCtorEq, e] <;> with_reducible rfl); all_goals (intro h; first | (exfalso; omega) | (simp only [h, decide_true, decide_false, not_true, not_false_iff])))
    | (refine aC_condT ?_ ?_; (· simp (disch := first | omega | (simp only [go_sem]; omega)) only [go_sem, get_miss, seval, reduceCtorEq, e]))
    | (refine aC_condF ?_ ?_; (· simp (disch := first | omega | (simp only [go_sem]; omega)) only [go_sem, get_miss, seval, reduceCtorEq, e]))
    | (refine aC_condP (by simp (disch := first | omega | (simp only [go_sem]; omega)) only [go_sem, get_miss, seval, reduceCtorEq, e] <;> with_reducible rfl) ?_ ?_ <;> (intro h; first | (exfalso; omega) | skip))
    | fail)
  all_goals try (first | exact True.intro | omega)
  all_goals try (simp (disch := first | omega | (simp only [go_sem]; omega)) only [go_sem, get_miss, seval, reduceCtorEq] <;> first | exact True.intro | omega)
  all_goals try (simp (disch := first | omega | (simp only [go_sem]; omega)) only [go_sem, get_miss, seval, reduceCtorEq, e])
  all_goals try simp
  all_goals try omega
end Go.Am
end
section
set_option linter.unusedVariables false
set_option linter.unusedSimpArgs false
namespace Go.Am
open Go Go.Proofs
set_option linter.unusedSimpArgs false
set_option linter.unusedVariables false
set_option maxHeartbeats 80000000
set_option maxRecDepth 100000
attribute [local irreducible] aC aL thenQ blockQ scopeQ ALoop AWp
attribute [-go_sem] putCells_eq
attribute [local go_sem] ws_store9 ws_length ws_load ws_take ws_put ws_store ws_drop0 ws_head ws_one ws_closed ws_get8 Nat.mul_one

theorem cpu_do_a (L : List Int) (d a b imm ld : Int) (hL : L.length = 9) (h0 : -9223372036854775808 ≤ imm) (h1 : imm ≤ 9223372036854775807) :
    (0 ≤ d → d < 8 → 0 ≤ a → a < 8 → 0 ≤ b → b < 8 → 0 ≤ L.getD b.toNat 0 → L.getD b.toNat 0 ≤ 18446744073709551615 → MayF 1 d a b imm (frm 1).1 (frm 1).2 → APure cx 15 [.agg (ws L), .agg [.int .i64 1, .int .i64 d, .int .i64 a, .int .i64 b, .int .i64 imm], .int .u64 ld] (.tup [.agg (ws (L.set 8 (IntKind.u64.wrap (L.getD 8 0 + 8)))), .agg [.int .i64 0, .int .i64 0]])) ∧
    (0 ≤ d → d < 8 → 0 ≤ a → a < 8 → 0 ≤ b → b < 8 → 0 ≤ L.getD b.toNat 0 → L.getD b.toNat 0 ≤ 18446744073709551615 → MayF 2 d a b imm (frm 2).1 (frm 2).2 → APure cx 15 [.agg (ws L), .agg [.int .i64 2, .int .i64 d, .int .i64 a, .int .i64 b, .int .i64 imm], .int .u64 ld] (.tup [.agg (ws ((L.set 8 (IntKind.u64.wrap (L.getD 8 0 + 8))).set d.toNat (IntKind.u64.wrap imm))), .agg [.int .i64 0, .int .i64 0]])) ∧
    (0 ≤ d → d < 8 → 0 ≤ a → a < 8 → 0 ≤ b → b < 8 → 0 ≤ L.getD b.toNat 0 → L.getD b.toNat 0 ≤ 18446744073709551615 → MayF 3 d a b imm (frm 3).1 (frm 3).2 → APure cx 15 [.agg (ws L), .agg [.int .i64 3, .int .i64 d, .int .i64 a, .int .i64 b, .int .i64 imm], .int .u64 ld] (.tup [.agg (ws ((L.set 8 (IntKind.u64.wrap (L.getD 8 0 + 8))).set d.toNat (L.getD a.toNat 0))), .agg [.int .i64 0, .int .i64 0]])) ∧
    (0 ≤ d → d < 8 → 0 ≤ a → a < 8 → 0 ≤ b → b < 8 → 0 ≤ L.getD b.toNat 0 → L.getD b.toNat 0 ≤ 18446744073709551615 → MayF 4 d a b imm (frm 4).1 (frm 4).2 → APure cx 15 [.agg (ws L), .agg [.int .i64 4, .int .i64 d, .int .i64 a, .int .i64 b, .int .i64 imm], .int .u64 ld] (.tup [.agg (ws ((L.set 8 (IntKind.u64.wrap (L.getD 8 0 + 8))).set d.toNat (IntKind.u64.wrap ((L.getD a.toNat 0) + (L.getD b.toNat 0))))), .agg [.int .i64 0, .int .i64 0]])) ∧
    (0 ≤ d → d < 8 → 0 ≤ a → a < 8 → 0 ≤ b → b < 8 → 0 ≤ L.getD b.toNat 0 → L.getD b.toNat 0 ≤ 18446744073709551615 → MayF 5 d a b imm (frm 5).1 (frm 5).2 → APure cx 15 [.agg (ws L), .agg [.int .i64 5, .int .i64 d, .int .i64 a, .int .i64 b, .int .i64 imm], .int .u64 ld] (.tup [.agg (ws ((L.set 8 (IntKind.u64.wrap (L.getD 8 0 + 8))).set d.toNat (IntKind.u64.wrap ((L.getD a.toNat 0) - (L.getD b.toNat 0))))), .agg [.int .i64 0, .int .i64 0]])) ∧
    (0 ≤ d → d < 8 → 0 ≤ a → a < 8 → 0 ≤ b → b < 8 → 0 ≤ L.getD b.toNat 0 → L.getD b.toNat 0 ≤ 18446744073709551615 → MayF 6 d a b imm (frm 6).1 (frm 6).2 → APure cx 15 [.agg (ws L), .agg [.int .i64 6, .int .i64 d, .int .i64 a, .int .i64 b, .int .i64 imm], .int .u64 ld] (.tup [.agg (ws ((L.set 8 (IntKind.u64.wrap (L.getD 8 0 + 8))).set d.toNat (bits .xor .u64 (L.getD a.toNat 0) (L.getD b.toNat 0)))), .agg [.int .i64 0, .int .i64 0]])) ∧
    (0 ≤ d → d < 8 → 0 ≤ a → a < 8 → 0 ≤ b → b < 8 → 0 ≤ L.getD b.toNat 0 → L.getD b.toNat 0 ≤ 18446744073709551615 → MayF 7 d a b imm (frm 7).1 (frm 7).2 → APure cx 15 [.agg (ws L), .agg [.int .i64 7, .int .i64 d, .int .i64 a, .int .i64 b, .int .i64 imm], .int .u64 ld] (.tup [.agg (ws ((L.set 8 (IntKind.u64.wrap (L.getD 8 0 + 8))).set d.toNat (bits .and .u64 (L.getD a.toNat 0) (L.getD b.toNat 0)))), .agg [.int .i64 0, .int .i64 0]])) ∧
    (0 ≤ d → d < 8 → 0 ≤ a → a < 8 → 0 ≤ b → b < 8 → 0 ≤ L.getD b.toNat 0 → L.getD b.toNat 0 ≤ 18446744073709551615 → MayF 8 d a b imm (frm 8).1 (frm 8).2 → APure cx 15 [.agg (ws L), .agg [.int .i64 8, .int .i64 d, .int .i64 a, .int .i64 b, .int .i64 imm], .int .u64 ld] (.tup [.agg (ws ((L.set 8 (IntKind.u64.wrap (L.getD 8 0 + 8))).set d.toNat (IntKind.u64.wrap ((L.getD a.toNat 0) * (L.getD b.toNat 0))))), .agg [.int .i64 0, .int .i64 0]])) := by
  refine ⟨fun d0 d8 a0 a8 b0 b8 bn bm hm => ?o1, fun d0 d8 a0 a8 b0 b8 bn bm hm => ?o2, fun d0 d8 a0 a8 b0 b8 bn bm hm => ?o3, fun d0 d8 a0 a8 b0 b8 bn bm hm => ?o4, fun d0 d8 a0 a8 b0 b8 bn bm hm => ?o5, fun d0 d8 a0 a8 b0 b8 bn bm hm => ?o6, fun d0 d8 a0 a8 b0 b8 bn bm hm => ?o7, fun d0 d8 a0 a8 b0 b8 bn bm hm => ?o8⟩
  case' o1 =>
    have hmay := cpu_May 1 d a b imm h0 h1
    rw [decide_eq_true hm] at hmay
    have hl := look_sums (fun _ => false) fe15.q (S := [ABox.cells (ws (L.set 8 (IntKind.u64.wrap (L.getD 8 0 + 8)))) 38, .cells [.int .i64 1, .int .i64 d, .int .i64 a, .int .i64 b, .int .i64 imm] 26, .cells (List.replicate 9 (.int .u64 0)) 38, .cells [.int .i64 0, .int .i64 0] 41] ++ [.mpx SUMS 8]) (b := 4) 1 rfl
    rw [show sumV 1 = .nilfn from rfl] at hl
  case' o2 =>
    have hmay := cpu_May 2 d a b imm h0 h1
    rw [decide_eq_true hm] at hmay
    have hl := look_sums (fun _ => false) fe15.q (S := [ABox.cells (ws (L.set 8 (IntKind.u64.wrap (L.getD 8 0 + 8)))) 38, .cells [.int .i64 2, .int .i64 d, .int .i64 a, .int .i64 b, .int .i64 imm] 26, .cells (List.replicate 9 (.int .u64 0)) 38, .cells [.int .i64 0, .int .i64 0] 41] ++ [.mpx SUMS 8]) (b := 4) 2 rfl
    rw [show sumV 2 = .nilfn from rfl] at hl
  case' o3 =>
    have hmay := cpu_May 3 d a b imm h0 h1
    rw [decide_eq_true hm] at hmay
    have hl := look_sums (fun _ => false) fe15.q (S := [ABox.cells (ws (L.set 8 (IntKind.u64.wrap (L.getD 8 0 + 8)))) 38, .cells [.int .i64 3, .int .i64 d, .int .i64 a, .int .i64 b, .int .i64 imm] 26, .cells (List.replicate 9 (.int .u64 0)) 38, .cells [.int .i64 0, .int .i64 0] 41] ++ [.mpx SUMS 8]) (b := 4) 3 rfl
    rw [show sumV 3 = .fn (.func 49) [] [] from rfl] at hl
    have hsum := sums_1 (L.getD a.toNat 0) (L.getD b.toNat 0)
  case' o4 =>
    have hmay := cpu_May 4 d a b imm h0 h1
    rw [decide_eq_true hm] at hmay
    have hl := look_sums (fun _ => false) fe15.q (S := [ABox.cells (ws (L.set 8 (IntKind.u64.wrap (L.getD 8 0 + 8)))) 38, .cells [.int .i64 4, .int .i64 d, .int .i64 a, .int .i64 b, .int .i64 imm] 26, .cells (List.replicate 9 (.int .u64 0)) 38, .cells [.int .i64 0, .int .i64 0] 41] ++ [.mpx SUMS 8]) (b := 4) 4 rfl
    rw [show sumV 4 = .fn (.func 50) [] [] from rfl] at hl
    have hsum := sums_2 (L.getD a.toNat 0) (L.getD b.toNat 0)
  case' o5 =>
    have hmay := cpu_May 5 d a b imm h0 h1
    rw [decide_eq_true hm] at hmay
    have hl := look_sums (fun _ => false) fe15.q (S := [ABox.cells (ws (L.set 8 (IntKind.u64.wrap (L.getD 8 0 + 8)))) 38, .cells [.int .i64 5, .int .i64 d, .int .i64 a, .int .i64 b, .int .i64 imm] 26, .cells (List.replicate 9 (.int .u64 0)) 38, .cells [.int .i64 0, .int .i64 0] 41] ++ [.mpx SUMS 8]) (b := 4) 5 rfl
    rw [show sumV 5 = .fn (.func 51) [] [] from rfl] at hl
    have hsum := sums_3 (L.getD a.toNat 0) (L.getD b.toNat 0)
  case' o6 =>
    have hmay := cpu_May 6 d a b imm h0 h1
    rw [decide_eq_true hm] at hmay
    have hl := look_sums (fun _ => false) fe15.q (S := [ABox.cells (ws (L.set 8 (IntKind.u64.wrap (L.getD 8 0 + 8)))) 38, .cells [.int .i64 6, .int .i64 d, .int .i64 a, .int .i64 b, .int .i64 imm] 26, .cells (List.replicate 9 (.int .u64 0)) 38, .cells [.int .i64 0, .int .i64 0] 41] ++ [.mpx SUMS 8]) (b := 4) 6 rfl
    rw [show sumV 6 = .fn (.func 52) [] [] from rfl] at hl
    have hsum := sums_4 (L.getD a.toNat 0) (L.getD b.toNat 0)
  case' o7 =>
    have hmay := cpu_May 7 d a b imm h0 h1
    rw [decide_eq_true hm] at hmay
    have hl := look_sums (fun _ => false) fe15.q (S := [ABox.cells (ws (L.set 8 (IntKind.u64.wrap (L.getD 8 0 + 8)))) 38, .cells [.int .i64 7, .int .i64 d, .int .i64 a, .int .i64 b, .int .i64 imm] 26, .cells (List.replicate 9 (.int .u64 0)) 38, .cells [.int .i64 0, .int .i64 0] 41] ++ [.mpx SUMS 8]) (b := 4) 7 rfl
    rw [show sumV 7 = .fn (.func 53) [] [] from rfl] at hl
    have hsum := sums_5 (L.getD a.toNat 0) (L.getD b.toNat 0)
  case' o8 =>
    have hmay := cpu_May 8 d a b imm h0 h1
    rw [decide_eq_true hm] at hmay
    have hl := look_sums (fun _ => false) fe15.q (S := [ABox.cells (ws (L.set 8 (IntKind.u64.wrap (L.getD 8 0 + 8)))) 38, .cells [.int .i64 8, .int .i64 d, .int .i64 a, .int .i64 b, .int .i64 imm] 26, .cells (List.replicate 9 (.int .u64 0)) 38, .cells [.int .i64 0, .int .i64 0] 41] ++ [.mpx SUMS 8]) (b := 4) 8 rfl
    rw [show sumV 8 = .fn (.func 54) [] [] from rfl] at hl
    have hsum := sums_6 (L.getD a.toNat 0) (L.getD b.toNat 0)
  all_goals
    refine pure_fn cxOk Tryd.func15 (by kernel_rfl) (fun _ => false) (fe15.q) (by kernel_rfl) (Nat.le_of_ble_eq_true (by kernel_rfl)) ?_
    dsimp only [LB, Tryd.f15, lite, nextOf, Option.isNone, Bool.not_true, Bool.not_false, Bool.and_true, Bool.true_and, Bool.false_and, Bool.and_self, Bool.false_eq_true, if_false, if_true, ↓reduceIte, liteO, List.map, Option.map, frame0, List.zipIdx, Nat.reduceAdd]
    try simp only [List.getElem?_toArray, List.getElem?_cons_succ, List.getElem?_cons_zero, Option.bind_some]
  all_goals
    repeat' (first
      | refine aC_seq ?_
      | refine aC_reg rfl ?_
      | refine aC_block ?_
      | refine aC_skip ?_
      | refine aC_loop ?_
      | refine aC_scope ?_
      | refine scopeQ_normal ?_
      | refine scopeQ_exit ?_
      | refine scopeQ_ret ?_
      | refine aC_exit ?_
      | refine aC_ret ?_
      | refine thenQ_normal ?_
      | refine blockQ_normal ?_
      | refine thenQ_ret ?_
      | refine blockQ_ret ?_
      | refine thenQ_exit ?_
      | refine blockQ_hit ?_
      | refine blockQ_miss rfl ?_
      | refine aL_nil ?_
      | (apply aL_step; (· exact True.intro); (· simp (disch := (first | omega | (simp only [List.length_set, List.length_append, List.length_cons, List.length_nil, List.length_take, List.length_drop, List.length_replicate, List.length_map, length_bl]; omega))) only [go_sem, get_miss, Nat.reduceEqDiff, ↓reduceIte, Nat.reduceAdd, Nat.reduceMul, Nat.reduceSub, Nat.reduceLT, Nat.reduceLeDiff, Int.reduceToNat, Int.reducePow, Int.reduceLE, Int.reduceLT, Int.reduceNeg, Int.reduceMul, Int.reduceAdd, Int.reduceSub, Nat.reduceBEq, Nat.reduceMod, Nat.reduceDiv, Nat.reducePow, reduceCtorEq]); (· simp (disch := (first | omega | (simp only [List.length_set, List.length_append, List.length_cons, List.length_nil, List.length_take, List.length_drop, List.length_replicate, List.length_map, length_bl]; omega))) only [go_sem, get_miss, Nat.reduceEqDiff, ↓reduceIte, Nat.reduceAdd, Nat.reduceMul, Nat.reduceSub, Nat.reduceLT, Nat.reduceLeDiff, Int.reduceToNat, Int.reducePow, Int.reduceLE, Int.reduceLT, Int.reduceNeg, Int.reduceMul, Int.reduceAdd, Int.reduceSub, Nat.reduceBEq, Nat.reduceMod, Nat.reduceDiv, Nat.reducePow, reduceCtorEq] <;> with_reducible rfl); (· simp only [go_sem] <;> with_reducible rfl))
      | (refine aL_skip ?_ (by simp only [go_sem] <;> with_reducible rfl) ?_; (· simp (disch := (first | omega | (simp only [List.length_set, List.length_append, List.length_cons, List.length_nil, List.length_take, List.length_drop, List.length_replicate, List.length_map, length_bl]; omega))) only [go_sem, get_miss, Nat.reduceEqDiff, ↓reduceIte, Nat.reduceAdd, Nat.reduceMul, Nat.reduceSub, Nat.reduceLT, Nat.reduceLeDiff, Int.reduceToNat, Int.reducePow, Int.reduceLE, Int.reduceLT, Int.reduceNeg, Int.reduceMul, Int.reduceAdd, Int.reduceSub, Nat.reduceBEq, Nat.reduceMod, Nat.reduceDiv, Nat.reducePow, reduceCtorEq]))
      | (apply aL_guardN; (· simp (disch := (first | omega | (simp only [List.length_set, List.length_append, List.length_cons, List.length_nil, List.length_take, List.length_drop, List.length_replicate, List.length_map, length_bl]; omega))) only [go_sem, get_miss, Nat.reduceEqDiff, ↓reduceIte, Nat.reduceAdd, Nat.reduceMul, Nat.reduceSub, Nat.reduceLT, Nat.reduceLeDiff, Int.reduceToNat, Int.reducePow, Int.reduceLE, Int.reduceLT, Int.reduceNeg, Int.reduceMul, Int.reduceAdd, Int.reduceSub, Nat.reduceBEq, Nat.reduceMod, Nat.reduceDiv, Nat.reducePow, reduceCtorEq] <;> with_reducible rfl); all_goals (intro h; first | (exfalso; omega) | (simp only [h, decide_true, decide_false, not_true, not_false_iff])))
      | (apply aL_guardP; (· simp (disch := (first | omega | (simp only [List.length_set, List.length_append, List.length_cons, List.length_nil, List.length_take, List.length_drop, List.length_replicate, List.length_map, length_bl]; omega))) only [go_sem, get_miss, Nat.reduceEqDiff, ↓reduceIte, Nat.reduceAdd, Nat.reduceMul, Nat.reduceSub, Nat.reduceLT, Nat.reduceLeDiff, Int.reduceToNat, Int.reducePow, Int.reduceLE, Int.reduceLT, Int.reduceNeg, Int.reduceMul, Int.reduceAdd, Int.reduceSub, Nat.reduceBEq, Nat.reduceMod, Nat.reduceDiv, Nat.reducePow, reduceCtorEq] <;> with_reducible rfl); all_goals (intro h; first | (exfalso; omega) | (simp only [h, decide_true, decide_false, not_true, not_false_iff])))
      | (refine aC_condT ?_ ?_; (· simp (disch := (first | omega | (simp only [List.length_set, List.length_append, List.length_cons, List.length_nil, List.length_take, List.length_drop, List.length_replicate, List.length_map, length_bl]; omega))) only [go_sem, get_miss, Nat.reduceEqDiff, ↓reduceIte, Nat.reduceAdd, Nat.reduceMul, Nat.reduceSub, Nat.reduceLT, Nat.reduceLeDiff, Int.reduceToNat, Int.reducePow, Int.reduceLE, Int.reduceLT, Int.reduceNeg, Int.reduceMul, Int.reduceAdd, Int.reduceSub, Nat.reduceBEq, Nat.reduceMod, Nat.reduceDiv, Nat.reducePow, reduceCtorEq]))
      | (refine aC_condF ?_ ?_; (· simp (disch := (first | omega | (simp only [List.length_set, List.length_append, List.length_cons, List.length_nil, List.length_take, List.length_drop, List.length_replicate, List.length_map, length_bl]; omega))) only [go_sem, get_miss, Nat.reduceEqDiff, ↓reduceIte, Nat.reduceAdd, Nat.reduceMul, Nat.reduceSub, Nat.reduceLT, Nat.reduceLeDiff, Int.reduceToNat, Int.reducePow, Int.reduceLE, Int.reduceLT, Int.reduceNeg, Int.reduceMul, Int.reduceAdd, Int.reduceSub, Nat.reduceBEq, Nat.reduceMod, Nat.reduceDiv, Nat.reducePow, reduceCtorEq]))
      | (refine aC_condP (by simp (disch := (first | omega | (simp only [List.length_set, List.length_append, List.length_cons, List.length_nil, List.length_take, List.length_drop, List.length_replicate, List.length_map, length_bl]; omega))) only [go_sem, get_miss, Nat.reduceEqDiff, ↓reduceIte, Nat.reduceAdd, Nat.reduceMul, Nat.reduceSub, Nat.reduceLT, Nat.reduceLeDiff, Int.reduceToNat, Int.reducePow, Int.reduceLE, Int.reduceLT, Int.reduceNeg, Int.reduceMul, Int.reduceAdd, Int.reduceSub, Nat.reduceBEq, Nat.reduceMod, Nat.reduceDiv, Nat.reducePow, reduceCtorEq] <;> with_reducible rfl) ?_ ?_ <;> (intro h; first | (exfalso; omega) | skip))
      | (apply aL_pure cxG (hmay); (case hg => (simp (disch := (first | omega | (simp only [List.length_set, List.length_append, List.length_cons, List.length_nil, List.length_take, List.length_drop, List.length_replicate, List.length_map, length_bl]; omega))) only [go_sem, get_miss, Nat.reduceEqDiff, ↓reduceIte, Nat.reduceAdd, Nat.reduceMul, Nat.reduceSub, Nat.reduceLT, Nat.reduceLeDiff, Int.reduceToNat, Int.reducePow, Int.reduceLE, Int.reduceLT, Int.reduceNeg, Int.reduceMul, Int.reduceAdd, Int.reduceSub, Nat.reduceBEq, Nat.reduceMod, Nat.reduceDiv, Nat.reducePow, reduceCtorEq])); (case hx => (simp (disch := (first | omega | (simp only [List.length_set, List.length_append, List.length_cons, List.length_nil, List.length_take, List.length_drop, List.length_replicate, List.length_map, length_bl]; omega))) only [go_sem, get_miss, Nat.reduceEqDiff, ↓reduceIte, Nat.reduceAdd, Nat.reduceMul, Nat.reduceSub, Nat.reduceLT, Nat.reduceLeDiff, Int.reduceToNat, Int.reducePow, Int.reduceLE, Int.reduceLT, Int.reduceNeg, Int.reduceMul, Int.reduceAdd, Int.reduceSub, Nat.reduceBEq, Nat.reduceMod, Nat.reduceDiv, Nat.reducePow, reduceCtorEq] <;> with_reducible rfl)); (case ha => (simp (disch := (first | omega | (simp only [List.length_set, List.length_append, List.length_cons, List.length_nil, List.length_take, List.length_drop, List.length_replicate, List.length_map, length_bl]; omega))) only [go_sem, get_miss, Nat.reduceEqDiff, ↓reduceIte, Nat.reduceAdd, Nat.reduceMul, Nat.reduceSub, Nat.reduceLT, Nat.reduceLeDiff, Int.reduceToNat, Int.reducePow, Int.reduceLE, Int.reduceLT, Int.reduceNeg, Int.reduceMul, Int.reduceAdd, Int.reduceSub, Nat.reduceBEq, Nat.reduceMod, Nat.reduceDiv, Nat.reducePow, reduceCtorEq] <;> with_reducible rfl)); (case he => (simp only [go_sem] <;> with_reducible rfl)); (case hcl => (simp)); (case hf => (simp only [go_sem] <;> with_reducible rfl)))
      | fail)
  all_goals try refine aC_regB (U := [(some 28, some 26)]) rfl [(some 28, 1), (some 29, 4)] ?_
  all_goals
    repeat' (first
      | refine aLB_nil ?_
      | (apply aLB_step; (· exact True.intro); (· exact (by intro h; cases h)); (· rfl); (· simp (disch := (first | omega | (simp only [List.length_set, List.length_append, List.length_cons, List.length_nil, List.length_take, List.length_drop, List.length_replicate, List.length_map, length_bl]; omega))) only [go_sem, get_miss, Nat.reduceEqDiff, ↓reduceIte, Nat.reduceAdd, Nat.reduceMul, Nat.reduceSub, Nat.reduceLT, Nat.reduceLeDiff, Int.reduceToNat, Int.reducePow, Int.reduceLE, Int.reduceLT, Int.reduceNeg, Int.reduceMul, Int.reduceAdd, Int.reduceSub, Nat.reduceBEq, Nat.reduceMod, Nat.reduceDiv, Nat.reducePow, reduceCtorEq]); (· simp (disch := (first | omega | (simp only [List.length_set, List.length_append, List.length_cons, List.length_nil, List.length_take, List.length_drop, List.length_replicate, List.length_map, length_bl]; omega))) only [go_sem, get_miss, Nat.reduceEqDiff, ↓reduceIte, Nat.reduceAdd, Nat.reduceMul, Nat.reduceSub, Nat.reduceLT, Nat.reduceLeDiff, Int.reduceToNat, Int.reducePow, Int.reduceLE, Int.reduceLT, Int.reduceNeg, Int.reduceMul, Int.reduceAdd, Int.reduceSub, Nat.reduceBEq, Nat.reduceMod, Nat.reduceDiv, Nat.reducePow, reduceCtorEq] <;> with_reducible rfl); (· simp only [go_sem] <;> with_reducible rfl); (· (intro b hb; first | (cases hb; done) | (simp (disch := (first | omega | (simp only [List.length_set, List.length_append, List.length_cons, List.length_nil, List.length_take, List.length_drop, List.length_replicate, List.length_map, length_bl]; omega))) only [loadBox, go_sem, get_miss, Nat.reduceEqDiff, ↓reduceIte, Nat.reduceAdd, Nat.reduceMul, Nat.reduceSub, Nat.reduceLT, Nat.reduceLeDiff, Int.reduceToNat, Int.reducePow, Int.reduceLE, Int.reduceLT, Int.reduceNeg, Int.reduceMul, Int.reduceAdd, Int.reduceSub, Nat.reduceBEq, Nat.reduceMod, Nat.reduceDiv, Nat.reducePow, reduceCtorEq] at hb; (try injection hb with hb); subst hb; simp))))
      | (apply aLB_write; (· exact True.intro); (· rfl); (· rfl); (· simp (disch := (first | omega | (simp only [List.length_set, List.length_append, List.length_cons, List.length_nil, List.length_take, List.length_drop, List.length_replicate, List.length_map, length_bl]; omega))) only [go_sem, get_miss, Nat.reduceEqDiff, ↓reduceIte, Nat.reduceAdd, Nat.reduceMul, Nat.reduceSub, Nat.reduceLT, Nat.reduceLeDiff, Int.reduceToNat, Int.reducePow, Int.reduceLE, Int.reduceLT, Int.reduceNeg, Int.reduceMul, Int.reduceAdd, Int.reduceSub, Nat.reduceBEq, Nat.reduceMod, Nat.reduceDiv, Nat.reducePow, reduceCtorEq]); (· simp (disch := (first | omega | (simp only [List.length_set, List.length_append, List.length_cons, List.length_nil, List.length_take, List.length_drop, List.length_replicate, List.length_map, length_bl]; omega))) only [go_sem, get_miss, Nat.reduceEqDiff, ↓reduceIte, Nat.reduceAdd, Nat.reduceMul, Nat.reduceSub, Nat.reduceLT, Nat.reduceLeDiff, Int.reduceToNat, Int.reducePow, Int.reduceLE, Int.reduceLT, Int.reduceNeg, Int.reduceMul, Int.reduceAdd, Int.reduceSub, Nat.reduceBEq, Nat.reduceMod, Nat.reduceDiv, Nat.reducePow, reduceCtorEq] <;> with_reducible rfl); (· simp only [go_sem] <;> with_reducible rfl); (· simp))
      | (refine aLB_skip ?_ (by simp only [go_sem] <;> with_reducible rfl) ?_; (· simp (disch := (first | omega | (simp only [List.length_set, List.length_append, List.length_cons, List.length_nil, List.length_take, List.length_drop, List.length_replicate, List.length_map, length_bl]; omega))) only [go_sem, get_miss, Nat.reduceEqDiff, ↓reduceIte, Nat.reduceAdd, Nat.reduceMul, Nat.reduceSub, Nat.reduceLT, Nat.reduceLeDiff, Int.reduceToNat, Int.reducePow, Int.reduceLE, Int.reduceLT, Int.reduceNeg, Int.reduceMul, Int.reduceAdd, Int.reduceSub, Nat.reduceBEq, Nat.reduceMod, Nat.reduceDiv, Nat.reducePow, reduceCtorEq]))
      | (apply aLB_acall (cpu_sums _); (case hg => (simp (disch := (first | omega | (simp only [List.length_set, List.length_append, List.length_cons, List.length_nil, List.length_take, List.length_drop, List.length_replicate, List.length_map, length_bl]; omega))) only [go_sem, get_miss, Nat.reduceEqDiff, ↓reduceIte, Nat.reduceAdd, Nat.reduceMul, Nat.reduceSub, Nat.reduceLT, Nat.reduceLeDiff, Int.reduceToNat, Int.reducePow, Int.reduceLE, Int.reduceLT, Int.reduceNeg, Int.reduceMul, Int.reduceAdd, Int.reduceSub, Nat.reduceBEq, Nat.reduceMod, Nat.reduceDiv, Nat.reducePow, reduceCtorEq])); (case hx => (simp (disch := (first | omega | (simp only [List.length_set, List.length_append, List.length_cons, List.length_nil, List.length_take, List.length_drop, List.length_replicate, List.length_map, length_bl]; omega))) only [go_sem, get_miss, Nat.reduceEqDiff, ↓reduceIte, Nat.reduceAdd, Nat.reduceMul, Nat.reduceSub, Nat.reduceLT, Nat.reduceLeDiff, Int.reduceToNat, Int.reducePow, Int.reduceLE, Int.reduceLT, Int.reduceNeg, Int.reduceMul, Int.reduceAdd, Int.reduceSub, Nat.reduceBEq, Nat.reduceMod, Nat.reduceDiv, Nat.reducePow, reduceCtorEq] <;> with_reducible rfl)); (case ha => (simp (disch := (first | omega | (simp only [List.length_set, List.length_append, List.length_cons, List.length_nil, List.length_take, List.length_drop, List.length_replicate, List.length_map, length_bl]; omega))) only [go_sem, get_miss, Nat.reduceEqDiff, ↓reduceIte, Nat.reduceAdd, Nat.reduceMul, Nat.reduceSub, Nat.reduceLT, Nat.reduceLeDiff, Int.reduceToNat, Int.reducePow, Int.reduceLE, Int.reduceLT, Int.reduceNeg, Int.reduceMul, Int.reduceAdd, Int.reduceSub, Nat.reduceBEq, Nat.reduceMod, Nat.reduceDiv, Nat.reducePow, reduceCtorEq] <;> with_reducible rfl)); (case he => (with_reducible rfl)); (case hp => (rfl)); (case hf => (simp only [go_sem] <;> with_reducible rfl)); (case hk => (simp)))
      | (apply aLB_lookX (hl); (case hg => (simp (disch := (first | omega | (simp only [List.length_set, List.length_append, List.length_cons, List.length_nil, List.length_take, List.length_drop, List.length_replicate, List.length_map, length_bl]; omega))) only [go_sem, get_miss, Nat.reduceEqDiff, ↓reduceIte, Nat.reduceAdd, Nat.reduceMul, Nat.reduceSub, Nat.reduceLT, Nat.reduceLeDiff, Int.reduceToNat, Int.reducePow, Int.reduceLE, Int.reduceLT, Int.reduceNeg, Int.reduceMul, Int.reduceAdd, Int.reduceSub, Nat.reduceBEq, Nat.reduceMod, Nat.reduceDiv, Nat.reducePow, reduceCtorEq])); (case hm => (simp (disch := (first | omega | (simp only [List.length_set, List.length_append, List.length_cons, List.length_nil, List.length_take, List.length_drop, List.length_replicate, List.length_map, length_bl]; omega))) only [go_sem, get_miss, Nat.reduceEqDiff, ↓reduceIte, Nat.reduceAdd, Nat.reduceMul, Nat.reduceSub, Nat.reduceLT, Nat.reduceLeDiff, Int.reduceToNat, Int.reducePow, Int.reduceLE, Int.reduceLT, Int.reduceNeg, Int.reduceMul, Int.reduceAdd, Int.reduceSub, Nat.reduceBEq, Nat.reduceMod, Nat.reduceDiv, Nat.reducePow, reduceCtorEq] <;> with_reducible rfl)); (case hk => (simp (disch := (first | omega | (simp only [List.length_set, List.length_append, List.length_cons, List.length_nil, List.length_take, List.length_drop, List.length_replicate, List.length_map, length_bl]; omega))) only [go_sem, get_miss, Nat.reduceEqDiff, ↓reduceIte, Nat.reduceAdd, Nat.reduceMul, Nat.reduceSub, Nat.reduceLT, Nat.reduceLeDiff, Int.reduceToNat, Int.reducePow, Int.reduceLE, Int.reduceLT, Int.reduceNeg, Int.reduceMul, Int.reduceAdd, Int.reduceSub, Nat.reduceBEq, Nat.reduceMod, Nat.reduceDiv, Nat.reducePow, reduceCtorEq] <;> with_reducible rfl)); (case hB => (simp)); (case hf => (simp only [go_sem] <;> with_reducible rfl)))
      | fail)
  all_goals
    repeat' (first
      | refine aC_seq ?_
      | refine aC_reg rfl ?_
      | refine aC_block ?_
      | refine aC_skip ?_
      | refine aC_loop ?_
      | refine aC_scope ?_
      | refine scopeQ_normal ?_
      | refine scopeQ_exit ?_
      | refine scopeQ_ret ?_
      | refine aC_exit ?_
      | refine aC_ret ?_
      | refine thenQ_normal ?_
      | refine blockQ_normal ?_
      | refine thenQ_ret ?_
      | refine blockQ_ret ?_
      | refine thenQ_exit ?_
      | refine blockQ_hit ?_
      | refine blockQ_miss rfl ?_
      | refine aL_nil ?_
      | (apply aL_step; (· exact True.intro); (· simp (disch := (first | omega | (simp only [List.length_set, List.length_append, List.length_cons, List.length_nil, List.length_take, List.length_drop, List.length_replicate, List.length_map, length_bl]; omega))) only [go_sem, get_miss, Nat.reduceEqDiff, ↓reduceIte, Nat.reduceAdd, Nat.reduceMul, Nat.reduceSub, Nat.reduceLT, Nat.reduceLeDiff, Int.reduceToNat, Int.reducePow, Int.reduceLE, Int.reduceLT, Int.reduceNeg, Int.reduceMul, Int.reduceAdd, Int.reduceSub, Nat.reduceBEq, Nat.reduceMod, Nat.reduceDiv, Nat.reducePow, reduceCtorEq]); (· simp (disch := (first | omega | (simp only [List.length_set, List.length_append, List.length_cons, List.length_nil, List.length_take, List.length_drop, List.length_replicate, List.length_map, length_bl]; omega))) only [go_sem, get_miss, Nat.reduceEqDiff, ↓reduceIte, Nat.reduceAdd, Nat.reduceMul, Nat.reduceSub, Nat.reduceLT, Nat.reduceLeDiff, Int.reduceToNat, Int.reducePow, Int.reduceLE, Int.reduceLT, Int.reduceNeg, Int.reduceMul, Int.reduceAdd, Int.reduceSub, Nat.reduceBEq, Nat.reduceMod, Nat.reduceDiv, Nat.reducePow, reduceCtorEq] <;> with_reducible rfl); (· simp only [go_sem] <;> with_reducible rfl))
      | (refine aL_skip ?_ (by simp only [go_sem] <;> with_reducible rfl) ?_; (· simp (disch := (first | omega | (simp only [List.length_set, List.length_append, List.length_cons, List.length_nil, List.length_take, List.length_drop, List.length_replicate, List.length_map, length_bl]; omega))) only [go_sem, get_miss, Nat.reduceEqDiff, ↓reduceIte, Nat.reduceAdd, Nat.reduceMul, Nat.reduceSub, Nat.reduceLT, Nat.reduceLeDiff, Int.reduceToNat, Int.reducePow, Int.reduceLE, Int.reduceLT, Int.reduceNeg, Int.reduceMul, Int.reduceAdd, Int.reduceSub, Nat.reduceBEq, Nat.reduceMod, Nat.reduceDiv, Nat.reducePow, reduceCtorEq]))
      | (apply aL_guardN; (· simp (disch := (first | omega | (simp only [List.length_set, List.length_append, List.length_cons, List.length_nil, List.length_take, List.length_drop, List.length_replicate, List.length_map, length_bl]; omega))) only [go_sem, get_miss, Nat.reduceEqDiff, ↓reduceIte, Nat.reduceAdd, Nat.reduceMul, Nat.reduceSub, Nat.reduceLT, Nat.reduceLeDiff, Int.reduceToNat, Int.reducePow, Int.reduceLE, Int.reduceLT, Int.reduceNeg, Int.reduceMul, Int.reduceAdd, Int.reduceSub, Nat.reduceBEq, Nat.reduceMod, Nat.reduceDiv, Nat.reducePow, reduceCtorEq] <;> with_reducible rfl); all_goals (intro h; first | (exfalso; omega) | (simp only [h, decide_true, decide_false, not_true, not_false_iff])))
      | (apply aL_guardP; (· simp (disch := (first | omega | (simp only [List.length_set, List.length_append, List.length_cons, List.length_nil, List.length_take, List.length_drop, List.length_replicate, List.length_map, length_bl]; omega))) only [go_sem, get_miss, Nat.reduceEqDiff, ↓reduceIte, Nat.reduceAdd, Nat.reduceMul, Nat.reduceSub, Nat.reduceLT, Nat.reduceLeDiff, Int.reduceToNat, Int.reducePow, Int.reduceLE, Int.reduceLT, Int.reduceNeg, Int.reduceMul, Int.reduceAdd, Int.reduceSub, Nat.reduceBEq, Nat.reduceMod, Nat.reduceDiv, Nat.reducePow, reduceCtorEq] <;> with_reducible rfl); all_goals (intro h; first | (exfalso; omega) | (simp only [h, decide_true, decide_false, not_true, not_false_iff])))
      | (refine aC_condT ?_ ?_; (· simp (disch := (first | omega | (simp only [List.length_set, List.length_append, List.length_cons, List.length_nil, List.length_take, List.length_drop, List.length_replicate, List.length_map, length_bl]; omega))) only [go_sem, get_miss, Nat.reduceEqDiff, ↓reduceIte, Nat.reduceAdd, Nat.reduceMul, Nat.reduceSub, Nat.reduceLT, Nat.reduceLeDiff, Int.reduceToNat, Int.reducePow, Int.reduceLE, Int.reduceLT, Int.reduceNeg, Int.reduceMul, Int.reduceAdd, Int.reduceSub, Nat.reduceBEq, Nat.reduceMod, Nat.reduceDiv, Nat.reducePow, reduceCtorEq]))
      | (refine aC_condF ?_ ?_; (· simp (disch := (first | omega | (simp only [List.length_set, List.length_append, List.length_cons, List.length_nil, List.length_take, List.length_drop, List.length_replicate, List.length_map, length_bl]; omega))) only [go_sem, get_miss, Nat.reduceEqDiff, ↓reduceIte, Nat.reduceAdd, Nat.reduceMul, Nat.reduceSub, Nat.reduceLT, Nat.reduceLeDiff, Int.reduceToNat, Int.reducePow, Int.reduceLE, Int.reduceLT, Int.reduceNeg, Int.reduceMul, Int.reduceAdd, Int.reduceSub, Nat.reduceBEq, Nat.reduceMod, Nat.reduceDiv, Nat.reducePow, reduceCtorEq]))
      | (refine aC_condP (by simp (disch := (first | omega | (simp only [List.length_set, List.length_append, List.length_cons, List.length_nil, List.length_take, List.length_drop, List.length_replicate, List.length_map, length_bl]; omega))) only [go_sem, get_miss, Nat.reduceEqDiff, ↓reduceIte, Nat.reduceAdd, Nat.reduceMul, Nat.reduceSub, Nat.reduceLT, Nat.reduceLeDiff, Int.reduceToNat, Int.reducePow, Int.reduceLE, Int.reduceLT, Int.reduceNeg, Int.reduceMul, Int.reduceAdd, Int.reduceSub, Nat.reduceBEq, Nat.reduceMod, Nat.reduceDiv, Nat.reducePow, reduceCtorEq] <;> with_reducible rfl) ?_ ?_ <;> (intro h; first | (exfalso; omega) | skip))
      | (apply aL_pure cxG (hmay); (case hg => (simp (disch := (first | omega | (simp only [List.length_set, List.length_append, List.length_cons, List.length_nil, List.length_take, List.length_drop, List.length_replicate, List.length_map, length_bl]; omega))) only [go_sem, get_miss, Nat.reduceEqDiff, ↓reduceIte, Nat.reduceAdd, Nat.reduceMul, Nat.reduceSub, Nat.reduceLT, Nat.reduceLeDiff, Int.reduceToNat, Int.reducePow, Int.reduceLE, Int.reduceLT, Int.reduceNeg, Int.reduceMul, Int.reduceAdd, Int.reduceSub, Nat.reduceBEq, Nat.reduceMod, Nat.reduceDiv, Nat.reducePow, reduceCtorEq])); (case hx => (simp (disch := (first | omega | (simp only [List.length_set, List.length_append, List.length_cons, List.length_nil, List.length_take, List.length_drop, List.length_replicate, List.length_map, length_bl]; omega))) only [go_sem, get_miss, Nat.reduceEqDiff, ↓reduceIte, Nat.reduceAdd, Nat.reduceMul, Nat.reduceSub, Nat.reduceLT, Nat.reduceLeDiff, Int.reduceToNat, Int.reducePow, Int.reduceLE, Int.reduceLT, Int.reduceNeg, Int.reduceMul, Int.reduceAdd, Int.reduceSub, Nat.reduceBEq, Nat.reduceMod, Nat.reduceDiv, Nat.reducePow, reduceCtorEq] <;> with_reducible rfl)); (case ha => (simp (disch := (first | omega | (simp only [List.length_set, List.length_append, List.length_cons, List.length_nil, List.length_take, List.length_drop, List.length_replicate, List.length_map, length_bl]; omega))) only [go_sem, get_miss, Nat.reduceEqDiff, ↓reduceIte, Nat.reduceAdd, Nat.reduceMul, Nat.reduceSub, Nat.reduceLT, Nat.reduceLeDiff, Int.reduceToNat, Int.reducePow, Int.reduceLE, Int.reduceLT, Int.reduceNeg, Int.reduceMul, Int.reduceAdd, Int.reduceSub, Nat.reduceBEq, Nat.reduceMod, Nat.reduceDiv, Nat.reducePow, reduceCtorEq] <;> with_reducible rfl)); (case he => (simp only [go_sem] <;> with_reducible rfl)); (case hcl => (simp)); (case hf => (simp only [go_sem] <;> with_reducible rfl)))
      | fail)
  all_goals try refine aC_regB (U := [(some 33, some 45)]) rfl [(some 33, 1), (some 36, 1), (some 39, 0), (some 41, 1), (some 44, 0)] ?_
  all_goals
    repeat' (first
      | refine aLB_nil ?_
      | (apply aLB_step; (· exact True.intro); (· exact (by intro h; cases h)); (· rfl); (· simp (disch := (first | omega | (simp only [List.length_set, List.length_append, List.length_cons, List.length_nil, List.length_take, List.length_drop, List.length_replicate, List.length_map, length_bl]; omega))) only [go_sem, get_miss, Nat.reduceEqDiff, ↓reduceIte, Nat.reduceAdd, Nat.reduceMul, Nat.reduceSub, Nat.reduceLT, Nat.reduceLeDiff, Int.reduceToNat, Int.reducePow, Int.reduceLE, Int.reduceLT, Int.reduceNeg, Int.reduceMul, Int.reduceAdd, Int.reduceSub, Nat.reduceBEq, Nat.reduceMod, Nat.reduceDiv, Nat.reducePow, reduceCtorEq]); (· simp (disch := (first | omega | (simp only [List.length_set, List.length_append, List.length_cons, List.length_nil, List.length_take, List.length_drop, List.length_replicate, List.length_map, length_bl]; omega))) only [go_sem, get_miss, Nat.reduceEqDiff, ↓reduceIte, Nat.reduceAdd, Nat.reduceMul, Nat.reduceSub, Nat.reduceLT, Nat.reduceLeDiff, Int.reduceToNat, Int.reducePow, Int.reduceLE, Int.reduceLT, Int.reduceNeg, Int.reduceMul, Int.reduceAdd, Int.reduceSub, Nat.reduceBEq, Nat.reduceMod, Nat.reduceDiv, Nat.reducePow, reduceCtorEq] <;> with_reducible rfl); (· simp only [go_sem] <;> with_reducible rfl); (· (intro b hb; first | (cases hb; done) | (simp (disch := (first | omega | (simp only [List.length_set, List.length_append, List.length_cons, List.length_nil, List.length_take, List.length_drop, List.length_replicate, List.length_map, length_bl]; omega))) only [loadBox, go_sem, get_miss, Nat.reduceEqDiff, ↓reduceIte, Nat.reduceAdd, Nat.reduceMul, Nat.reduceSub, Nat.reduceLT, Nat.reduceLeDiff, Int.reduceToNat, Int.reducePow, Int.reduceLE, Int.reduceLT, Int.reduceNeg, Int.reduceMul, Int.reduceAdd, Int.reduceSub, Nat.reduceBEq, Nat.reduceMod, Nat.reduceDiv, Nat.reducePow, reduceCtorEq] at hb; (try injection hb with hb); subst hb; simp))))
      | (apply aLB_write; (· exact True.intro); (· rfl); (· rfl); (· simp (disch := (first | omega | (simp only [List.length_set, List.length_append, List.length_cons, List.length_nil, List.length_take, List.length_drop, List.length_replicate, List.length_map, length_bl]; omega))) only [go_sem, get_miss, Nat.reduceEqDiff, ↓reduceIte, Nat.reduceAdd, Nat.reduceMul, Nat.reduceSub, Nat.reduceLT, Nat.reduceLeDiff, Int.reduceToNat, Int.reducePow, Int.reduceLE, Int.reduceLT, Int.reduceNeg, Int.reduceMul, Int.reduceAdd, Int.reduceSub, Nat.reduceBEq, Nat.reduceMod, Nat.reduceDiv, Nat.reducePow, reduceCtorEq]); (· simp (disch := (first | omega | (simp only [List.length_set, List.length_append, List.length_cons, List.length_nil, List.length_take, List.length_drop, List.length_replicate, List.length_map, length_bl]; omega))) only [go_sem, get_miss, Nat.reduceEqDiff, ↓reduceIte, Nat.reduceAdd, Nat.reduceMul, Nat.reduceSub, Nat.reduceLT, Nat.reduceLeDiff, Int.reduceToNat, Int.reducePow, Int.reduceLE, Int.reduceLT, Int.reduceNeg, Int.reduceMul, Int.reduceAdd, Int.reduceSub, Nat.reduceBEq, Nat.reduceMod, Nat.reduceDiv, Nat.reducePow, reduceCtorEq] <;> with_reducible rfl); (· simp only [go_sem] <;> with_reducible rfl); (· simp))
      | (refine aLB_skip ?_ (by simp only [go_sem] <;> with_reducible rfl) ?_; (· simp (disch := (first | omega | (simp only [List.length_set, List.length_append, List.length_cons, List.length_nil, List.length_take, List.length_drop, List.length_replicate, List.length_map, length_bl]; omega))) only [go_sem, get_miss, Nat.reduceEqDiff, ↓reduceIte, Nat.reduceAdd, Nat.reduceMul, Nat.reduceSub, Nat.reduceLT, Nat.reduceLeDiff, Int.reduceToNat, Int.reducePow, Int.reduceLE, Int.reduceLT, Int.reduceNeg, Int.reduceMul, Int.reduceAdd, Int.reduceSub, Nat.reduceBEq, Nat.reduceMod, Nat.reduceDiv, Nat.reducePow, reduceCtorEq]))
      | (apply aLB_pure cxG (hsum); (case hg => (simp (disch := (first | omega | (simp only [List.length_set, List.length_append, List.length_cons, List.length_nil, List.length_take, List.length_drop, List.length_replicate, List.length_map, length_bl]; omega))) only [go_sem, get_miss, Nat.reduceEqDiff, ↓reduceIte, Nat.reduceAdd, Nat.reduceMul, Nat.reduceSub, Nat.reduceLT, Nat.reduceLeDiff, Int.reduceToNat, Int.reducePow, Int.reduceLE, Int.reduceLT, Int.reduceNeg, Int.reduceMul, Int.reduceAdd, Int.reduceSub, Nat.reduceBEq, Nat.reduceMod, Nat.reduceDiv, Nat.reducePow, reduceCtorEq])); (case hx => (simp (disch := (first | omega | (simp only [List.length_set, List.length_append, List.length_cons, List.length_nil, List.length_take, List.length_drop, List.length_replicate, List.length_map, length_bl]; omega))) only [go_sem, get_miss, Nat.reduceEqDiff, ↓reduceIte, Nat.reduceAdd, Nat.reduceMul, Nat.reduceSub, Nat.reduceLT, Nat.reduceLeDiff, Int.reduceToNat, Int.reducePow, Int.reduceLE, Int.reduceLT, Int.reduceNeg, Int.reduceMul, Int.reduceAdd, Int.reduceSub, Nat.reduceBEq, Nat.reduceMod, Nat.reduceDiv, Nat.reducePow, reduceCtorEq] <;> with_reducible rfl)); (case ha => (simp (disch := (first | omega | (simp only [List.length_set, List.length_append, List.length_cons, List.length_nil, List.length_take, List.length_drop, List.length_replicate, List.length_map, length_bl]; omega))) only [go_sem, get_miss, Nat.reduceEqDiff, ↓reduceIte, Nat.reduceAdd, Nat.reduceMul, Nat.reduceSub, Nat.reduceLT, Nat.reduceLeDiff, Int.reduceToNat, Int.reducePow, Int.reduceLE, Int.reduceLT, Int.reduceNeg, Int.reduceMul, Int.reduceAdd, Int.reduceSub, Nat.reduceBEq, Nat.reduceMod, Nat.reduceDiv, Nat.reducePow, reduceCtorEq] <;> with_reducible rfl)); (case he => (simp only [go_sem] <;> with_reducible rfl)); (case hcl => (simp)); (case hf => (simp only [go_sem] <;> with_reducible rfl)))
      | fail)
  all_goals
    repeat' (first
      | refine aC_seq ?_
      | refine aC_reg rfl ?_
      | refine aC_block ?_
      | refine aC_skip ?_
      | refine aC_loop ?_
      | refine aC_scope ?_
      | refine scopeQ_normal ?_
      | refine scopeQ_exit ?_
      | refine scopeQ_ret ?_
      | refine aC_exit ?_
      | refine aC_ret ?_
      | refine thenQ_normal ?_
      | refine blockQ_normal ?_
      | refine thenQ_ret ?_
      | refine blockQ_ret ?_
      | refine thenQ_exit ?_
      | refine blockQ_hit ?_
      | refine blockQ_miss rfl ?_
      | refine aL_nil ?_
      | (apply aL_step; (· exact True.intro); (· simp (disch := (first | omega | (simp only [List.length_set, List.length_append, List.length_cons, List.length_nil, List.length_take, List.length_drop, List.length_replicate, List.length_map, length_bl]; omega))) only [go_sem, get_miss, Nat.reduceEqDiff, ↓reduceIte, Nat.reduceAdd, Nat.reduceMul, Nat.reduceSub, Nat.reduceLT, Nat.reduceLeDiff, Int.reduceToNat, Int.reducePow, Int.reduceLE, Int.reduceLT, Int.reduceNeg, Int.reduceMul, Int.reduceAdd, Int.reduceSub, Nat.reduceBEq, Nat.reduceMod, Nat.reduceDiv, Nat.reducePow, reduceCtorEq]); (· simp (disch := (first | omega | (simp only [List.length_set, List.length_append, List.length_cons, List.length_nil, List.length_take, List.length_drop, List.length_replicate, List.length_map, length_bl]; omega))) only [go_sem, get_miss, Nat.reduceEqDiff, ↓reduceIte, Nat.reduceAdd, Nat.reduceMul, Nat.reduceSub, Nat.reduceLT, Nat.reduceLeDiff, Int.reduceToNat, Int.reducePow, Int.reduceLE, Int.reduceLT, Int.reduceNeg, Int.reduceMul, Int.reduceAdd, Int.reduceSub, Nat.reduceBEq, Nat.reduceMod, Nat.reduceDiv, Nat.reducePow, reduceCtorEq] <;> with_reducible rfl); (· simp only [go_sem] <;> with_reducible rfl))
      | (refine aL_skip ?_ (by simp only [go_sem] <;> with_reducible rfl) ?_; (· simp (disch := (first | omega | (simp only [List.length_set, List.length_append, List.length_cons, List.length_nil, List.length_take, List.length_drop, List.length_replicate, List.length_map, length_bl]; omega))) only [go_sem, get_miss, Nat.reduceEqDiff, ↓reduceIte, Nat.reduceAdd, Nat.reduceMul, Nat.reduceSub, Nat.reduceLT, Nat.reduceLeDiff, Int.reduceToNat, Int.reducePow, Int.reduceLE, Int.reduceLT, Int.reduceNeg, Int.reduceMul, Int.reduceAdd, Int.reduceSub, Nat.reduceBEq, Nat.reduceMod, Nat.reduceDiv, Nat.reducePow, reduceCtorEq]))
      | (apply aL_guardN; (· simp (disch := (first | omega | (simp only [List.length_set, List.length_append, List.length_cons, List.length_nil, List.length_take, List.length_drop, List.length_replicate, List.length_map, length_bl]; omega))) only [go_sem, get_miss, Nat.reduceEqDiff, ↓reduceIte, Nat.reduceAdd, Nat.reduceMul, Nat.reduceSub, Nat.reduceLT, Nat.reduceLeDiff, Int.reduceToNat, Int.reducePow, Int.reduceLE, Int.reduceLT, Int.reduceNeg, Int.reduceMul, Int.reduceAdd, Int.reduceSub, Nat.reduceBEq, Nat.reduceMod, Nat.reduceDiv, Nat.reducePow, reduceCtorEq] <;> with_reducible rfl); all_goals (intro h; first | (exfalso; omega) | (simp only [h, decide_true, decide_false, not_true, not_false_iff])))
      | (apply aL_guardP; (· simp (disch := (first | omega | (simp only [List.length_set, List.length_append, List.length_cons, List.length_nil, List.length_take, List.length_drop, List.length_replicate, List.length_map, length_bl]; omega))) only [go_sem, get_miss, Nat.reduceEqDiff, ↓reduceIte, Nat.reduceAdd, Nat.reduceMul, Nat.reduceSub, Nat.reduceLT, Nat.reduceLeDiff, Int.reduceToNat, Int.reducePow, Int.reduceLE, Int.reduceLT, Int.reduceNeg, Int.reduceMul, Int.reduceAdd, Int.reduceSub, Nat.reduceBEq, Nat.reduceMod, Nat.reduceDiv, Nat.reducePow, reduceCtorEq] <;> with_reducible rfl); all_goals (intro h; first | (exfalso; omega) | (simp only [h, decide_true, decide_false, not_true, not_false_iff])))
      | (refine aC_condT ?_ ?_; (· simp (disch := (first | omega | (simp only [List.length_set, List.length_append, List.length_cons, List.length_nil, List.length_take, List.length_drop, List.length_replicate, List.length_map, length_bl]; omega))) only [go_sem, get_miss, Nat.reduceEqDiff, ↓reduceIte, Nat.reduceAdd, Nat.reduceMul, Nat.reduceSub, Nat.reduceLT, Nat.reduceLeDiff, Int.reduceToNat, Int.reducePow, Int.reduceLE, Int.reduceLT, Int.reduceNeg, Int.reduceMul, Int.reduceAdd, Int.reduceSub, Nat.reduceBEq, Nat.reduceMod, Nat.reduceDiv, Nat.reducePow, reduceCtorEq]))
      | (refine aC_condF ?_ ?_; (· simp (disch := (first | omega | (simp only [List.length_set, List.length_append, List.length_cons, List.length_nil, List.length_take, List.length_drop, List.length_replicate, List.length_map, length_bl]; omega))) only [go_sem, get_miss, Nat.reduceEqDiff, ↓reduceIte, Nat.reduceAdd, Nat.reduceMul, Nat.reduceSub, Nat.reduceLT, Nat.reduceLeDiff, Int.reduceToNat, Int.reducePow, Int.reduceLE, Int.reduceLT, Int.reduceNeg, Int.reduceMul, Int.reduceAdd, Int.reduceSub, Nat.reduceBEq, Nat.reduceMod, Nat.reduceDiv, Nat.reducePow, reduceCtorEq]))
      | (refine aC_condP (by simp (disch := (first | omega | (simp only [List.length_set, List.length_append, List.length_cons, List.length_nil, List.length_take, List.length_drop, List.length_replicate, List.length_map, length_bl]; omega))) only [go_sem, get_miss, Nat.reduceEqDiff, ↓reduceIte, Nat.reduceAdd, Nat.reduceMul, Nat.reduceSub, Nat.reduceLT, Nat.reduceLeDiff, Int.reduceToNat, Int.reducePow, Int.reduceLE, Int.reduceLT, Int.reduceNeg, Int.reduceMul, Int.reduceAdd, Int.reduceSub, Nat.reduceBEq, Nat.reduceMod, Nat.reduceDiv, Nat.reducePow, reduceCtorEq] <;> with_reducible rfl) ?_ ?_ <;> (intro h; first | (exfalso; omega) | skip))
      | fail)
  all_goals try (first | exact True.intro | omega)
  all_goals try (simp (disch := (first | omega | (simp only [List.length_set, List.length_append, List.length_cons, List.length_nil, List.length_take, List.length_drop, List.length_replicate, List.length_map, length_bl]; omega))) only [go_sem, get_miss, Nat.reduceEqDiff, ↓reduceIte, Nat.reduceAdd, Nat.reduceMul, Nat.reduceSub, Nat.reduceLT, Nat.reduceLeDiff, Int.reduceToNat, Int.reducePow, Int.reduceLE, Int.reduceLT, Int.reduceNeg, Int.reduceMul, Int.reduceAdd, Int.reduceSub, Nat.reduceBEq, Nat.reduceMod, Nat.reduceDiv, Nat.reducePow, reduceCtorEq] <;> first | exact True.intro | omega)
  all_goals (clear hmay)
  all_goals try clear hl
  all_goals try clear hsum
  all_goals try (simp (disch := (first | omega | (simp only [List.length_set, List.length_append, List.length_cons, List.length_nil, List.length_take, List.length_drop, List.length_replicate, List.length_map, length_bl]; omega))) only [go_sem, get_miss, Nat.reduceEqDiff, ↓reduceIte, Nat.reduceAdd, Nat.reduceMul, Nat.reduceSub, Nat.reduceLT, Nat.reduceLeDiff, Int.reduceToNat, Int.reducePow, Int.reduceLE, Int.reduceLT, Int.reduceNeg, Int.reduceMul, Int.reduceAdd, Int.reduceSub, Nat.reduceBEq, Nat.reduceMod, Nat.reduceDiv, Nat.reducePow, reduceCtorEq])
  all_goals try simp
  all_goals try exact ⟨sum_keys _, sum_one _⟩
  all_goals try omega
  all_goals try exact ⟨by omega, fun x hx => ws_clo _ x hx⟩
end Go.Am
end
section
set_option linter.unusedVariables false
set_option linter.unusedSimpArgs false
namespace Go.Am
open Go Go.Proofs
theorem PL41_0 : placeOf cx.T ⟨(.struct #[⟨ "Kind", 39, 0, false, "", "", 0⟩, ⟨ "Number", 3, 1, false, "", "", 8⟩]), 2, 16, [(.int .i64 0), (.int .i64 0)]⟩ 0 = some (0, 1) := by kernel_rfl
attribute [go_sem] PL41_0
theorem PL41_1 : placeOf cx.T ⟨(.struct #[⟨ "Kind", 39, 0, false, "", "", 0⟩, ⟨ "Number", 3, 1, false, "", "", 8⟩]), 2, 16, [(.int .i64 0), (.int .i64 0)]⟩ 1 = some (1, 1) := by kernel_rfl
attribute [go_sem] PL41_1
theorem PL46_0 : placeOf cx.T ⟨(.struct #[⟨ "Kind", 44, 0, false, "", "", 0⟩, ⟨ "Addr", 22, 1, false, "", "", 8⟩, ⟨ "Word", 22, 2, false, "", "", 16⟩]), 3, 24, [(.int .i64 0), (.int .u64 0), (.int .u64 0)]⟩ 0 = some (0, 1) := by kernel_rfl
attribute [go_sem] PL46_0
theorem PL46_1 : placeOf cx.T ⟨(.struct #[⟨ "Kind", 44, 0, false, "", "", 0⟩, ⟨ "Addr", 22, 1, false, "", "", 8⟩, ⟨ "Word", 22, 2, false, "", "", 16⟩]), 3, 24, [(.int .i64 0), (.int .u64 0), (.int .u64 0)]⟩ 1 = some (1, 1) := by kernel_rfl
attribute [go_sem] PL46_1
theorem PL46_2 : placeOf cx.T ⟨(.struct #[⟨ "Kind", 44, 0, false, "", "", 0⟩, ⟨ "Addr", 22, 1, false, "", "", 8⟩, ⟨ "Word", 22, 2, false, "", "", 16⟩]), 3, 24, [(.int .i64 0), (.int .u64 0), (.int .u64 0)]⟩ 2 = some (2, 1) := by kernel_rfl
attribute [go_sem] PL46_2
attribute [go_sem] ne_eq not_true_eq_false or_false or_self if_false
end Go.Am
end
section
set_option linter.unusedVariables false
set_option linter.unusedSimpArgs false
namespace Go.Am
open Go Go.Proofs
set_option linter.unusedSimpArgs false
set_option linter.unusedVariables false
set_option maxHeartbeats 80000000
set_option maxRecDepth 100000
attribute [local irreducible] aC aL thenQ blockQ scopeQ ALoop AWp
attribute [-go_sem] putCells_eq
attribute [local go_sem] ws_store9 ws_length ws_load ws_take ws_put ws_store ws_drop0 ws_head ws_one ws_closed ws_get8 Nat.mul_one

theorem cpu_do_b (L : List Int) (d a b imm ld : Int) (hL : L.length = 9) (h0 : -9223372036854775808 ≤ imm) (h1 : imm ≤ 9223372036854775807) :
    (0 ≤ d → d < 8 → 0 ≤ a → a < 8 → 0 ≤ b → b < 8 → 0 ≤ L.getD b.toNat 0 → L.getD b.toNat 0 ≤ 18446744073709551615 → MayF 9 d a b imm (frm 9).1 (frm 9).2 → APure cx 15 [.agg (ws L), .agg [.int .i64 9, .int .i64 d, .int .i64 a, .int .i64 b, .int .i64 imm], .int .u64 ld] (.tup [.agg (ws ((L.set 8 (IntKind.u64.wrap (L.getD 8 0 + 8))).set d.toNat (IntKind.u64.wrap ((L.getD a.toNat 0) * 2 ^ (min ((L.getD b.toNat 0).tmod 64).toNat 64))))), .agg [.int .i64 0, .int .i64 0]])) ∧
    (0 ≤ d → d < 8 → 0 ≤ a → a < 8 → 0 ≤ b → b < 8 → 0 ≤ L.getD b.toNat 0 → L.getD b.toNat 0 ≤ 18446744073709551615 → MayF 10 d a b imm (frm 10).1 (frm 10).2 → APure cx 15 [.agg (ws L), .agg [.int .i64 10, .int .i64 d, .int .i64 a, .int .i64 b, .int .i64 imm], .int .u64 ld] (.tup [.agg (ws ((L.set 8 (IntKind.u64.wrap (L.getD 8 0 + 8))).set d.toNat ((L.getD a.toNat 0).fdiv (2 ^ (min ((L.getD b.toNat 0).tmod 64).toNat 64))))), .agg [.int .i64 0, .int .i64 0]])) ∧
    (0 ≤ d → d < 8 → 0 ≤ a → a < 8 → 0 ≤ b → b < 8 → 0 ≤ L.getD b.toNat 0 → L.getD b.toNat 0 ≤ 18446744073709551615 → MayF 11 d a b imm (frm 11).1 (frm 11).2 → APure cx 15 [.agg (ws L), .agg [.int .i64 11, .int .i64 d, .int .i64 a, .int .i64 b, .int .i64 imm], .int .u64 ld] (.tup [.agg (ws ((L.set 8 (IntKind.u64.wrap (L.getD 8 0 + 8))).set d.toNat ld)), .agg [.int .i64 0, .int .i64 0]])) ∧
    (0 ≤ d → d < 8 → 0 ≤ a → a < 8 → 0 ≤ b → b < 8 → 0 ≤ L.getD b.toNat 0 → L.getD b.toNat 0 ≤ 18446744073709551615 → MayF 12 d a b imm (frm 12).1 (frm 12).2 → APure cx 15 [.agg (ws L), .agg [.int .i64 12, .int .i64 d, .int .i64 a, .int .i64 b, .int .i64 imm], .int .u64 ld] (.tup [.agg (ws (L.set 8 (IntKind.u64.wrap (L.getD 8 0 + 8)))), .agg [.int .i64 0, .int .i64 0]])) ∧
    (0 ≤ d → d < 8 → 0 ≤ a → a < 8 → 0 ≤ b → b < 8 → 0 ≤ L.getD b.toNat 0 → L.getD b.toNat 0 ≤ 18446744073709551615 → MayF 13 d a b imm (frm 13).1 (frm 13).2 → APure cx 15 [.agg (ws L), .agg [.int .i64 13, .int .i64 d, .int .i64 a, .int .i64 b, .int .i64 imm], .int .u64 ld] (.tup [.agg (ws ((L.set 8 (IntKind.u64.wrap (L.getD 8 0 + 8))).set 8 (IntKind.u64.wrap ((L.getD 8 0) + IntKind.u64.wrap imm)))), .agg [.int .i64 0, .int .i64 0]])) ∧
    (0 ≤ d → d < 8 → 0 ≤ a → a < 8 → 0 ≤ b → b < 8 → 0 ≤ L.getD b.toNat 0 → L.getD b.toNat 0 ≤ 18446744073709551615 → MayF 14 d a b imm (frm 14).1 (frm 14).2 → L.getD a.toNat 0 ≠ 0 → APure cx 15 [.agg (ws L), .agg [.int .i64 14, .int .i64 d, .int .i64 a, .int .i64 b, .int .i64 imm], .int .u64 ld] (.tup [.agg (ws ((L.set 8 (IntKind.u64.wrap (L.getD 8 0 + 8))).set 8 (IntKind.u64.wrap ((L.getD 8 0) + IntKind.u64.wrap imm)))), .agg [.int .i64 0, .int .i64 0]])) ∧
    (0 ≤ d → d < 8 → 0 ≤ a → a < 8 → 0 ≤ b → b < 8 → 0 ≤ L.getD b.toNat 0 → L.getD b.toNat 0 ≤ 18446744073709551615 → MayF 14 d a b imm (frm 14).1 (frm 14).2 → L.getD a.toNat 0 = 0 → APure cx 15 [.agg (ws L), .agg [.int .i64 14, .int .i64 d, .int .i64 a, .int .i64 b, .int .i64 imm], .int .u64 ld] (.tup [.agg (ws (L.set 8 (IntKind.u64.wrap (L.getD 8 0 + 8)))), .agg [.int .i64 0, .int .i64 0]])) ∧
    (0 ≤ d → d < 8 → 0 ≤ a → a < 8 → 0 ≤ b → b < 8 → 0 ≤ L.getD b.toNat 0 → L.getD b.toNat 0 ≤ 18446744073709551615 → MayF 15 d a b imm (frm 15).1 (frm 15).2 → APure cx 15 [.agg (ws L), .agg [.int .i64 15, .int .i64 d, .int .i64 a, .int .i64 b, .int .i64 imm], .int .u64 ld] (.tup [.agg (ws (L.set 8 (IntKind.u64.wrap (L.getD 8 0 + 8)))), .agg [.int .i64 2, .int .i64 d]])) ∧
    (0 ≤ d → d < 8 → 0 ≤ a → a < 8 → 0 ≤ b → b < 8 → 0 ≤ L.getD b.toNat 0 → L.getD b.toNat 0 ≤ 18446744073709551615 → MayF 16 d a b imm (frm 16).1 (frm 16).2 → APure cx 15 [.agg (ws L), .agg [.int .i64 16, .int .i64 d, .int .i64 a, .int .i64 b, .int .i64 imm], .int .u64 ld] (.tup [.agg (ws (L.set 8 (IntKind.u64.wrap (L.getD 8 0 + 8)))), .agg [.int .i64 1, .int .i64 imm]])) ∧
    (0 ≤ d → d < 8 → 0 ≤ a → a < 8 → 0 ≤ b → b < 8 → 0 ≤ L.getD b.toNat 0 → L.getD b.toNat 0 ≤ 18446744073709551615 → MayF 17 d a b imm (frm 17).1 (frm 17).2 → APure cx 15 [.agg (ws L), .agg [.int .i64 17, .int .i64 d, .int .i64 a, .int .i64 b, .int .i64 imm], .int .u64 ld] (.tup [.agg (ws L), .agg [.int .i64 3, .int .i64 0]])) ∧
    (∀ op : Int, ¬ MayF op d a b imm (frm op).1 (frm op).2 → APure cx 15 [.agg (ws L), .agg [.int .i64 op, .int .i64 d, .int .i64 a, .int .i64 b, .int .i64 imm], .int .u64 ld] (.tup [.agg (ws L), .agg [.int .i64 3, .int .i64 0]])) := by
  refine ⟨fun d0 d8 a0 a8 b0 b8 bn bm hm => ?o9, fun d0 d8 a0 a8 b0 b8 bn bm hm => ?o10, fun d0 d8 a0 a8 b0 b8 bn bm hm => ?o11, fun d0 d8 a0 a8 b0 b8 bn bm hm => ?o12, fun d0 d8 a0 a8 b0 b8 bn bm hm => ?o13, fun d0 d8 a0 a8 b0 b8 bn bm hm hz => ?o14t, fun d0 d8 a0 a8 b0 b8 bn bm hm hz => ?o14f, fun d0 d8 a0 a8 b0 b8 bn bm hm => ?o15, fun d0 d8 a0 a8 b0 b8 bn bm hm => ?o16, fun d0 d8 a0 a8 b0 b8 bn bm hm => ?o17, fun op hm => ?ono⟩
  case' o9 =>
    have hmay := cpu_May 9 d a b imm h0 h1
    rw [decide_eq_true hm] at hmay
    have hl := look_sums (fun _ => false) fe15.q (S := [ABox.cells (ws (L.set 8 (IntKind.u64.wrap (L.getD 8 0 + 8)))) 38, .cells [.int .i64 9, .int .i64 d, .int .i64 a, .int .i64 b, .int .i64 imm] 26, .cells (List.replicate 9 (.int .u64 0)) 38, .cells [.int .i64 0, .int .i64 0] 41] ++ [.mpx SUMS 8]) (b := 4) 9 rfl
    rw [show sumV 9 = .fn (.func 55) [] [] from rfl] at hl
    have hsum := sums_7 (L.getD a.toNat 0) (L.getD b.toNat 0) bn bm
  case' o10 =>
    have hmay := cpu_May 10 d a b imm h0 h1
    rw [decide_eq_true hm] at hmay
    have hl := look_sums (fun _ => false) fe15.q (S := [ABox.cells (ws (L.set 8 (IntKind.u64.wrap (L.getD 8 0 + 8)))) 38, .cells [.int .i64 10, .int .i64 d, .int .i64 a, .int .i64 b, .int .i64 imm] 26, .cells (List.replicate 9 (.int .u64 0)) 38, .cells [.int .i64 0, .int .i64 0] 41] ++ [.mpx SUMS 8]) (b := 4) 10 rfl
    rw [show sumV 10 = .fn (.func 56) [] [] from rfl] at hl
    have hsum := sums_8 (L.getD a.toNat 0) (L.getD b.toNat 0) bn bm
  case' o11 =>
    have hmay := cpu_May 11 d a b imm h0 h1
    rw [decide_eq_true hm] at hmay
    have hl := look_sums (fun _ => false) fe15.q (S := [ABox.cells (ws (L.set 8 (IntKind.u64.wrap (L.getD 8 0 + 8)))) 38, .cells [.int .i64 11, .int .i64 d, .int .i64 a, .int .i64 b, .int .i64 imm] 26, .cells (List.replicate 9 (.int .u64 0)) 38, .cells [.int .i64 0, .int .i64 0] 41] ++ [.mpx SUMS 8]) (b := 4) 11 rfl
    rw [show sumV 11 = .nilfn from rfl] at hl
  case' o12 =>
    have hmay := cpu_May 12 d a b imm h0 h1
    rw [decide_eq_true hm] at hmay
    have hl := look_sums (fun _ => false) fe15.q (S := [ABox.cells (ws (L.set 8 (IntKind.u64.wrap (L.getD 8 0 + 8)))) 38, .cells [.int .i64 12, .int .i64 d, .int .i64 a, .int .i64 b, .int .i64 imm] 26, .cells (List.replicate 9 (.int .u64 0)) 38, .cells [.int .i64 0, .int .i64 0] 41] ++ [.mpx SUMS 8]) (b := 4) 12 rfl
    rw [show sumV 12 = .nilfn from rfl] at hl
  case' o13 =>
    have hmay := cpu_May 13 d a b imm h0 h1
    rw [decide_eq_true hm] at hmay
    have hl := look_sums (fun _ => false) fe15.q (S := [ABox.cells (ws (L.set 8 (IntKind.u64.wrap (L.getD 8 0 + 8)))) 38, .cells [.int .i64 13, .int .i64 d, .int .i64 a, .int .i64 b, .int .i64 imm] 26, .cells (List.replicate 9 (.int .u64 0)) 38, .cells [.int .i64 0, .int .i64 0] 41] ++ [.mpx SUMS 8]) (b := 4) 13 rfl
    rw [show sumV 13 = .nilfn from rfl] at hl
  case' o14t =>
    have hmay := cpu_May 14 d a b imm h0 h1
    rw [decide_eq_true hm] at hmay
    have hl := look_sums (fun _ => false) fe15.q (S := [ABox.cells (ws (L.set 8 (IntKind.u64.wrap (L.getD 8 0 + 8)))) 38, .cells [.int .i64 14, .int .i64 d, .int .i64 a, .int .i64 b, .int .i64 imm] 26, .cells (List.replicate 9 (.int .u64 0)) 38, .cells [.int .i64 0, .int .i64 0] 41] ++ [.mpx SUMS 8]) (b := 4) 14 rfl
    rw [show sumV 14 = .nilfn from rfl] at hl
  case' o14f =>
    have hmay := cpu_May 14 d a b imm h0 h1
    rw [decide_eq_true hm] at hmay
    have hl := look_sums (fun _ => false) fe15.q (S := [ABox.cells (ws (L.set 8 (IntKind.u64.wrap (L.getD 8 0 + 8)))) 38, .cells [.int .i64 14, .int .i64 d, .int .i64 a, .int .i64 b, .int .i64 imm] 26, .cells (List.replicate 9 (.int .u64 0)) 38, .cells [.int .i64 0, .int .i64 0] 41] ++ [.mpx SUMS 8]) (b := 4) 14 rfl
    rw [show sumV 14 = .nilfn from rfl] at hl
  case' o15 =>
    have hmay := cpu_May 15 d a b imm h0 h1
    rw [decide_eq_true hm] at hmay
    have hl := look_sums (fun _ => false) fe15.q (S := [ABox.cells (ws (L.set 8 (IntKind.u64.wrap (L.getD 8 0 + 8)))) 38, .cells [.int .i64 15, .int .i64 d, .int .i64 a, .int .i64 b, .int .i64 imm] 26, .cells (List.replicate 9 (.int .u64 0)) 38, .cells [.int .i64 0, .int .i64 0] 41] ++ [.mpx SUMS 8]) (b := 4) 15 rfl
    rw [show sumV 15 = .nilfn from rfl] at hl
  case' o16 =>
    have hmay := cpu_May 16 d a b imm h0 h1
    rw [decide_eq_true hm] at hmay
    have hl := look_sums (fun _ => false) fe15.q (S := [ABox.cells (ws (L.set 8 (IntKind.u64.wrap (L.getD 8 0 + 8)))) 38, .cells [.int .i64 16, .int .i64 d, .int .i64 a, .int .i64 b, .int .i64 imm] 26, .cells (List.replicate 9 (.int .u64 0)) 38, .cells [.int .i64 0, .int .i64 0] 41] ++ [.mpx SUMS 8]) (b := 4) 16 rfl
    rw [show sumV 16 = .nilfn from rfl] at hl
  case' o17 =>
    have hmay := cpu_May 17 d a b imm h0 h1
    rw [decide_eq_true hm] at hmay
  case' ono =>
    have hmay := cpu_May op d a b imm h0 h1
    rw [decide_eq_false hm] at hmay
  all_goals
    refine pure_fn cxOk Tryd.func15 (by kernel_rfl) (fun _ => false) (fe15.q) (by kernel_rfl) (Nat.le_of_ble_eq_true (by kernel_rfl)) ?_
    dsimp only [LB, Tryd.f15, lite, nextOf, Option.isNone, Bool.not_true, Bool.not_false, Bool.and_true, Bool.true_and, Bool.false_and, Bool.and_self, Bool.false_eq_true, if_false, if_true, ↓reduceIte, liteO, List.map, Option.map, frame0, List.zipIdx, Nat.reduceAdd]
    try simp only [List.getElem?_toArray, List.getElem?_cons_succ, List.getElem?_cons_zero, Option.bind_some]
  all_goals
    repeat' (first
      | refine aC_seq ?_
      | refine aC_reg rfl ?_
      | refine aC_block ?_
      | refine aC_skip ?_
      | refine aC_loop ?_
      | refine aC_scope ?_
      | refine scopeQ_normal ?_
      | refine scopeQ_exit ?_
      | refine scopeQ_ret ?_
      | refine aC_exit ?_
      | refine aC_ret ?_
      | refine thenQ_normal ?_
      | refine blockQ_normal ?_
      | refine thenQ_ret ?_
      | refine blockQ_ret ?_
      | refine thenQ_exit ?_
      | refine blockQ_hit ?_
      | refine blockQ_miss rfl ?_
      | refine aL_nil ?_
      | (apply aL_step; (· exact True.intro); (· simp (disch := (first | omega | (simp only [List.length_set, List.length_append, List.length_cons, List.length_nil, List.length_take, List.length_drop, List.length_replicate, List.length_map, length_bl]; omega))) only [go_sem, get_miss, Nat.reduceEqDiff, ↓reduceIte, Nat.reduceAdd, Nat.reduceMul, Nat.reduceSub, Nat.reduceLT, Nat.reduceLeDiff, Int.reduceToNat, Int.reducePow, Int.reduceLE, Int.reduceLT, Int.reduceNeg, Int.reduceMul, Int.reduceAdd, Int.reduceSub, Nat.reduceBEq, Nat.reduceMod, Nat.reduceDiv, Nat.reducePow, reduceCtorEq]); (· simp (disch := (first | omega | (simp only [List.length_set, List.length_append, List.length_cons, List.length_nil, List.length_take, List.length_drop, List.length_replicate, List.length_map, length_bl]; omega))) only [go_sem, get_miss, Nat.reduceEqDiff, ↓reduceIte, Nat.reduceAdd, Nat.reduceMul, Nat.reduceSub, Nat.reduceLT, Nat.reduceLeDiff, Int.reduceToNat, Int.reducePow, Int.reduceLE, Int.reduceLT, Int.reduceNeg, Int.reduceMul, Int.reduceAdd, Int.reduceSub, Nat.reduceBEq, Nat.reduceMod, Nat.reduceDiv, Nat.reducePow, reduceCtorEq] <;> with_reducible rfl); (· simp only [go_sem] <;> with_reducible rfl))
      | (refine aL_skip ?_ (by simp only [go_sem] <;> with_reducible rfl) ?_; (· simp (disch := (first | omega | (simp only [List.length_set, List.length_append, List.length_cons, List.length_nil, List.length_take, List.length_drop, List.length_replicate, List.length_map, length_bl]; omega))) only [go_sem, get_miss, Nat.reduceEqDiff, ↓reduceIte, Nat.reduceAdd, Nat.reduceMul, Nat.reduceSub, Nat.reduceLT, Nat.reduceLeDiff, Int.reduceToNat, Int.reducePow, Int.reduceLE, Int.reduceLT, Int.reduceNeg, Int.reduceMul, Int.reduceAdd, Int.reduceSub, Nat.reduceBEq, Nat.reduceMod, Nat.reduceDiv, Nat.reducePow, reduceCtorEq]))
      | (apply aL_guardN; (· simp (disch := (first | omega | (simp only [List.length_set, List.length_append, List.length_cons, List.length_nil, List.length_take, List.length_drop, List.length_replicate, List.length_map, length_bl]; omega))) only [go_sem, get_miss, Nat.reduceEqDiff, ↓reduceIte, Nat.reduceAdd, Nat.reduceMul, Nat.reduceSub, Nat.reduceLT, Nat.reduceLeDiff, Int.reduceToNat, Int.reducePow, Int.reduceLE, Int.reduceLT, Int.reduceNeg, Int.reduceMul, Int.reduceAdd, Int.reduceSub, Nat.reduceBEq, Nat.reduceMod, Nat.reduceDiv, Nat.reducePow, reduceCtorEq] <;> with_reducible rfl); all_goals (intro h; first | (exfalso; omega) | (simp only [h, decide_true, decide_false, not_true, not_false_iff])))
      | (apply aL_guardP; (· simp (disch := (first | omega | (simp only [List.length_set, List.length_append, List.length_cons, List.length_nil, List.length_take, List.length_drop, List.length_replicate, List.length_map, length_bl]; omega))) only [go_sem, get_miss, Nat.reduceEqDiff, ↓reduceIte, Nat.reduceAdd, Nat.reduceMul, Nat.reduceSub, Nat.reduceLT, Nat.reduceLeDiff, Int.reduceToNat, Int.reducePow, Int.reduceLE, Int.reduceLT, Int.reduceNeg, Int.reduceMul, Int.reduceAdd, Int.reduceSub, Nat.reduceBEq, Nat.reduceMod, Nat.reduceDiv, Nat.reducePow, reduceCtorEq] <;> with_reducible rfl); all_goals (intro h; first | (exfalso; omega) | (simp only [h, decide_true, decide_false, not_true, not_false_iff])))
      | (refine aC_condT ?_ ?_; (· simp (disch := (first | omega | (simp only [List.length_set, List.length_append, List.length_cons, List.length_nil, List.length_take, List.length_drop, List.length_replicate, List.length_map, length_bl]; omega))) only [go_sem, get_miss, Nat.reduceEqDiff, ↓reduceIte, Nat.reduceAdd, Nat.reduceMul, Nat.reduceSub, Nat.reduceLT, Nat.reduceLeDiff, Int.reduceToNat, Int.reducePow, Int.reduceLE, Int.reduceLT, Int.reduceNeg, Int.reduceMul, Int.reduceAdd, Int.reduceSub, Nat.reduceBEq, Nat.reduceMod, Nat.reduceDiv, Nat.reducePow, reduceCtorEq]))
      | (refine aC_condF ?_ ?_; (· simp (disch := (first | omega | (simp only [List.length_set, List.length_append, List.length_cons, List.length_nil, List.length_take, List.length_drop, List.length_replicate, List.length_map, length_bl]; omega))) only [go_sem, get_miss, Nat.reduceEqDiff, ↓reduceIte, Nat.reduceAdd, Nat.reduceMul, Nat.reduceSub, Nat.reduceLT, Nat.reduceLeDiff, Int.reduceToNat, Int.reducePow, Int.reduceLE, Int.reduceLT, Int.reduceNeg, Int.reduceMul, Int.reduceAdd, Int.reduceSub, Nat.reduceBEq, Nat.reduceMod, Nat.reduceDiv, Nat.reducePow, reduceCtorEq]))
      | (refine aC_condP (by simp (disch := (first | omega | (simp only [List.length_set, List.length_append, List.length_cons, List.length_nil, List.length_take, List.length_drop, List.length_replicate, List.length_map, length_bl]; omega))) only [go_sem, get_miss, Nat.reduceEqDiff, ↓reduceIte, Nat.reduceAdd, Nat.reduceMul, Nat.reduceSub, Nat.reduceLT, Nat.reduceLeDiff, Int.reduceToNat, Int.reducePow, Int.reduceLE, Int.reduceLT, Int.reduceNeg, Int.reduceMul, Int.reduceAdd, Int.reduceSub, Nat.reduceBEq, Nat.reduceMod, Nat.reduceDiv, Nat.reducePow, reduceCtorEq] <;> with_reducible rfl) ?_ ?_ <;> (intro h; first | (exfalso; omega) | skip))
      | (apply aL_pure cxG (hmay); (case hg => (simp (disch := (first | omega | (simp only [List.length_set, List.length_append, List.length_cons, List.length_nil, List.length_take, List.length_drop, List.length_replicate, List.length_map, length_bl]; omega))) only [go_sem, get_miss, Nat.reduceEqDiff, ↓reduceIte, Nat.reduceAdd, Nat.reduceMul, Nat.reduceSub, Nat.reduceLT, Nat.reduceLeDiff, Int.reduceToNat, Int.reducePow, Int.reduceLE, Int.reduceLT, Int.reduceNeg, Int.reduceMul, Int.reduceAdd, Int.reduceSub, Nat.reduceBEq, Nat.reduceMod, Nat.reduceDiv, Nat.reducePow, reduceCtorEq])); (case hx => (simp (disch := (first | omega | (simp only [List.length_set, List.length_append, List.length_cons, List.length_nil, List.length_take, List.length_drop, List.length_replicate, List.length_map, length_bl]; omega))) only [go_sem, get_miss, Nat.reduceEqDiff, ↓reduceIte, Nat.reduceAdd, Nat.reduceMul, Nat.reduceSub, Nat.reduceLT, Nat.reduceLeDiff, Int.reduceToNat, Int.reducePow, Int.reduceLE, Int.reduceLT, Int.reduceNeg, Int.reduceMul, Int.reduceAdd, Int.reduceSub, Nat.reduceBEq, Nat.reduceMod, Nat.reduceDiv, Nat.reducePow, reduceCtorEq] <;> with_reducible rfl)); (case ha => (simp (disch := (first | omega | (simp only [List.length_set, List.length_append, List.length_cons, List.length_nil, List.length_take, List.length_drop, List.length_replicate, List.length_map, length_bl]; omega))) only [go_sem, get_miss, Nat.reduceEqDiff, ↓reduceIte, Nat.reduceAdd, Nat.reduceMul, Nat.reduceSub, Nat.reduceLT, Nat.reduceLeDiff, Int.reduceToNat, Int.reducePow, Int.reduceLE, Int.reduceLT, Int.reduceNeg, Int.reduceMul, Int.reduceAdd, Int.reduceSub, Nat.reduceBEq, Nat.reduceMod, Nat.reduceDiv, Nat.reducePow, reduceCtorEq] <;> with_reducible rfl)); (case he => (simp only [go_sem] <;> with_reducible rfl)); (case hcl => (simp)); (case hf => (simp only [go_sem] <;> with_reducible rfl)))
      | fail)
  all_goals try refine aC_regB (U := [(some 28, some 26)]) rfl [(some 28, 1), (some 29, 4)] ?_
  all_goals
    repeat' (first
      | refine aLB_nil ?_
      | (apply aLB_step; (· exact True.intro); (· exact (by intro h; cases h)); (· rfl); (· simp (disch := (first | omega | (simp only [List.length_set, List.length_append, List.length_cons, List.length_nil, List.length_take, List.length_drop, List.length_replicate, List.length_map, length_bl]; omega))) only [go_sem, get_miss, Nat.reduceEqDiff, ↓reduceIte, Nat.reduceAdd, Nat.reduceMul, Nat.reduceSub, Nat.reduceLT, Nat.reduceLeDiff, Int.reduceToNat, Int.reducePow, Int.reduceLE, Int.reduceLT, Int.reduceNeg, Int.reduceMul, Int.reduceAdd, Int.reduceSub, Nat.reduceBEq, Nat.reduceMod, Nat.reduceDiv, Nat.reducePow, reduceCtorEq]); (· simp (disch := (first | omega | (simp only [List.length_set, List.length_append, List.length_cons, List.length_nil, List.length_take, List.length_drop, List.length_replicate, List.length_map, length_bl]; omega))) only [go_sem, get_miss, Nat.reduceEqDiff, ↓reduceIte, Nat.reduceAdd, Nat.reduceMul, Nat.reduceSub, Nat.reduceLT, Nat.reduceLeDiff, Int.reduceToNat, Int.reducePow, Int.reduceLE, Int.reduceLT, Int.reduceNeg, Int.reduceMul, Int.reduceAdd, Int.reduceSub, Nat.reduceBEq, Nat.reduceMod, Nat.reduceDiv, Nat.reducePow, reduceCtorEq] <;> with_reducible rfl); (· simp only [go_sem] <;> with_reducible rfl); (· (intro b hb; first | (cases hb; done) | (simp (disch := (first | omega | (simp only [List.length_set, List.length_append, List.length_cons, List.length_nil, List.length_take, List.length_drop, List.length_replicate, List.length_map, length_bl]; omega))) only [loadBox, go_sem, get_miss, Nat.reduceEqDiff, ↓reduceIte, Nat.reduceAdd, Nat.reduceMul, Nat.reduceSub, Nat.reduceLT, Nat.reduceLeDiff, Int.reduceToNat, Int.reducePow, Int.reduceLE, Int.reduceLT, Int.reduceNeg, Int.reduceMul, Int.reduceAdd, Int.reduceSub, Nat.reduceBEq, Nat.reduceMod, Nat.reduceDiv, Nat.reducePow, reduceCtorEq] at hb; (try injection hb with hb); subst hb; simp))))
      | (apply aLB_write; (· exact True.intro); (· rfl); (· rfl); (· simp (disch := (first | omega | (simp only [List.length_set, List.length_append, List.length_cons, List.length_nil, List.length_take, List.length_drop, List.length_replicate, List.length_map, length_bl]; omega))) only [go_sem, get_miss, Nat.reduceEqDiff, ↓reduceIte, Nat.reduceAdd, Nat.reduceMul, Nat.reduceSub, Nat.reduceLT, Nat.reduceLeDiff, Int.reduceToNat, Int.reducePow, Int.reduceLE, Int.reduceLT, Int.reduceNeg, Int.reduceMul, Int.reduceAdd, Int.reduceSub, Nat.reduceBEq, Nat.reduceMod, Nat.reduceDiv, Nat.reducePow, reduceCtorEq]); (· simp (disch := (first | omega | (simp only [List.length_set, List.length_append, List.length_cons, List.length_nil, List.length_take, List.length_drop, List.length_replicate, List.length_map, length_bl]; omega))) only [go_sem, get_miss, Nat.reduceEqDiff, ↓reduceIte, Nat.reduceAdd, Nat.reduceMul, Nat.reduceSub, Nat.reduceLT, Nat.reduceLeDiff, Int.reduceToNat, Int.reducePow, Int.reduceLE, Int.reduceLT, Int.reduceNeg, Int.reduceMul, Int.reduceAdd, Int.reduceSub, Nat.reduceBEq, Nat.reduceMod, Nat.reduceDiv, Nat.reducePow, reduceCtorEq] <;> with_reducible rfl); (· simp only [go_sem] <;> with_reducible rfl); (· simp))
      | (refine aLB_skip ?_ (by simp only [go_sem] <;> with_reducible rfl) ?_; (· simp (disch := (first | omega | (simp only [List.length_set, List.length_append, List.length_cons, List.length_nil, List.length_take, List.length_drop, List.length_replicate, List.length_map, length_bl]; omega))) only [go_sem, get_miss, Nat.reduceEqDiff, ↓reduceIte, Nat.reduceAdd, Nat.reduceMul, Nat.reduceSub, Nat.reduceLT, Nat.reduceLeDiff, Int.reduceToNat, Int.reducePow, Int.reduceLE, Int.reduceLT, Int.reduceNeg, Int.reduceMul, Int.reduceAdd, Int.reduceSub, Nat.reduceBEq, Nat.reduceMod, Nat.reduceDiv, Nat.reducePow, reduceCtorEq]))
      | (apply aLB_acall (cpu_sums _); (case hg => (simp (disch := (first | omega | (simp only [List.length_set, List.length_append, List.length_cons, List.length_nil, List.length_take, List.length_drop, List.length_replicate, List.length_map, length_bl]; omega))) only [go_sem, get_miss, Nat.reduceEqDiff, ↓reduceIte, Nat.reduceAdd, Nat.reduceMul, Nat.reduceSub, Nat.reduceLT, Nat.reduceLeDiff, Int.reduceToNat, Int.reducePow, Int.reduceLE, Int.reduceLT, Int.reduceNeg, Int.reduceMul, Int.reduceAdd, Int.reduceSub, Nat.reduceBEq, Nat.reduceMod, Nat.reduceDiv, Nat.reducePow, reduceCtorEq])); (case hx => (simp (disch := (first | omega | (simp only [List.length_set, List.length_append, List.length_cons, List.length_nil, List.length_take, List.length_drop, List.length_replicate, List.length_map, length_bl]; omega))) only [go_sem, get_miss, Nat.reduceEqDiff, ↓reduceIte, Nat.reduceAdd, Nat.reduceMul, Nat.reduceSub, Nat.reduceLT, Nat.reduceLeDiff, Int.reduceToNat, Int.reducePow, Int.reduceLE, Int.reduceLT, Int.reduceNeg, Int.reduceMul, Int.reduceAdd, Int.reduceSub, Nat.reduceBEq, Nat.reduceMod, Nat.reduceDiv, Nat.reducePow, reduceCtorEq] <;> with_reducible rfl)); (case ha => (simp (disch := (first | omega | (simp only [List.length_set, List.length_append, List.length_cons, List.length_nil, List.length_take, List.length_drop, List.length_replicate, List.length_map, length_bl]; omega))) only [go_sem, get_miss, Nat.reduceEqDiff, ↓reduceIte, Nat.reduceAdd, Nat.reduceMul, Nat.reduceSub, Nat.reduceLT, Nat.reduceLeDiff, Int.reduceToNat, Int.reducePow, Int.reduceLE, Int.reduceLT, Int.reduceNeg, Int.reduceMul, Int.reduceAdd, Int.reduceSub, Nat.reduceBEq, Nat.reduceMod, Nat.reduceDiv, Nat.reducePow, reduceCtorEq] <;> with_reducible rfl)); (case he => (with_reducible rfl)); (case hp => (rfl)); (case hf => (simp only [go_sem] <;> with_reducible rfl)); (case hk => (simp)))
      | (apply aLB_lookX (hl); (case hg => (simp (disch := (first | omega | (simp only [List.length_set, List.length_append, List.length_cons, List.length_nil, List.length_take, List.length_drop, List.length_replicate, List.length_map, length_bl]; omega))) only [go_sem, get_miss, Nat.reduceEqDiff, ↓reduceIte, Nat.reduceAdd, Nat.reduceMul, Nat.reduceSub, Nat.reduceLT, Nat.reduceLeDiff, Int.reduceToNat, Int.reducePow, Int.reduceLE, Int.reduceLT, Int.reduceNeg, Int.reduceMul, Int.reduceAdd, Int.reduceSub, Nat.reduceBEq, Nat.reduceMod, Nat.reduceDiv, Nat.reducePow, reduceCtorEq])); (case hm => (simp (disch := (first | omega | (simp only [List.length_set, List.length_append, List.length_cons, List.length_nil, List.length_take, List.length_drop, List.length_replicate, List.length_map, length_bl]; omega))) only [go_sem, get_miss, Nat.reduceEqDiff, ↓reduceIte, Nat.reduceAdd, Nat.reduceMul, Nat.reduceSub, Nat.reduceLT, Nat.reduceLeDiff, Int.reduceToNat, Int.reducePow, Int.reduceLE, Int.reduceLT, Int.reduceNeg, Int.reduceMul, Int.reduceAdd, Int.reduceSub, Nat.reduceBEq, Nat.reduceMod, Nat.reduceDiv, Nat.reducePow, reduceCtorEq] <;> with_reducible rfl)); (case hk => (simp (disch := (first | omega | (simp only [List.length_set, List.length_append, List.length_cons, List.length_nil, List.length_take, List.length_drop, List.length_replicate, List.length_map, length_bl]; omega))) only [go_sem, get_miss, Nat.reduceEqDiff, ↓reduceIte, Nat.reduceAdd, Nat.reduceMul, Nat.reduceSub, Nat.reduceLT, Nat.reduceLeDiff, Int.reduceToNat, Int.reducePow, Int.reduceLE, Int.reduceLT, Int.reduceNeg, Int.reduceMul, Int.reduceAdd, Int.reduceSub, Nat.reduceBEq, Nat.reduceMod, Nat.reduceDiv, Nat.reducePow, reduceCtorEq] <;> with_reducible rfl)); (case hB => (simp)); (case hf => (simp only [go_sem] <;> with_reducible rfl)))
      | fail)
  all_goals
    repeat' (first
      | refine aC_seq ?_
      | refine aC_reg rfl ?_
      | refine aC_block ?_
      | refine aC_skip ?_
      | refine aC_loop ?_
      | refine aC_scope ?_
      | refine scopeQ_normal ?_
      | refine scopeQ_exit ?_
      | refine scopeQ_ret ?_
      | refine aC_exit ?_
      | refine aC_ret ?_
      | refine thenQ_normal ?_
      | refine blockQ_normal ?_
      | refine thenQ_ret ?_
      | refine blockQ_ret ?_
      | refine thenQ_exit ?_
      | refine blockQ_hit ?_
      | refine blockQ_miss rfl ?_
      | refine aL_nil ?_
      | (apply aL_step; (· exact True.intro); (· simp (disch := (first | omega | (simp only [List.length_set, List.length_append, List.length_cons, List.length_nil, List.length_take, List.length_drop, List.length_replicate, List.length_map, length_bl]; omega))) only [go_sem, get_miss, Nat.reduceEqDiff, ↓reduceIte, Nat.reduceAdd, Nat.reduceMul, Nat.reduceSub, Nat.reduceLT, Nat.reduceLeDiff, Int.reduceToNat, Int.reducePow, Int.reduceLE, Int.reduceLT, Int.reduceNeg, Int.reduceMul, Int.reduceAdd, Int.reduceSub, Nat.reduceBEq, Nat.reduceMod, Nat.reduceDiv, Nat.reducePow, reduceCtorEq]); (· simp (disch := (first | omega | (simp only [List.length_set, List.length_append, List.length_cons, List.length_nil, List.length_take, List.length_drop, List.length_replicate, List.length_map, length_bl]; omega))) only [go_sem, get_miss, Nat.reduceEqDiff, ↓reduceIte, Nat.reduceAdd, Nat.reduceMul, Nat.reduceSub, Nat.reduceLT, Nat.reduceLeDiff, Int.reduceToNat, Int.reducePow, Int.reduceLE, Int.reduceLT, Int.reduceNeg, Int.reduceMul, Int.reduceAdd, Int.reduceSub, Nat.reduceBEq, Nat.reduceMod, Nat.reduceDiv, Nat.reducePow, reduceCtorEq] <;> with_reducible rfl); (· simp only [go_sem] <;> with_reducible rfl))
      | (refine aL_skip ?_ (by simp only [go_sem] <;> with_reducible rfl) ?_; (· simp (disch := (first | omega | (simp only [List.length_set, List.length_append, List.length_cons, List.length_nil, List.length_take, List.length_drop, List.length_replicate, List.length_map, length_bl]; omega))) only [go_sem, get_miss, Nat.reduceEqDiff, ↓reduceIte, Nat.reduceAdd, Nat.reduceMul, Nat.reduceSub, Nat.reduceLT, Nat.reduceLeDiff, Int.reduceToNat, Int.reducePow, Int.reduceLE, Int.reduceLT, Int.reduceNeg, Int.reduceMul, Int.reduceAdd, Int.reduceSub, Nat.reduceBEq, Nat.reduceMod, Nat.reduceDiv, Nat.reducePow, reduceCtorEq]))
      | (apply aL_guardN; (· simp (disch := (first | omega | (simp only [List.length_set, List.length_append, List.length_cons, List.length_nil, List.length_take, List.length_drop, List.length_replicate, List.length_map, length_bl]; omega))) only [go_sem, get_miss, Nat.reduceEqDiff, ↓reduceIte, Nat.reduceAdd, Nat.reduceMul, Nat.reduceSub, Nat.reduceLT, Nat.reduceLeDiff, Int.reduceToNat, Int.reducePow, Int.reduceLE, Int.reduceLT, Int.reduceNeg, Int.reduceMul, Int.reduceAdd, Int.reduceSub, Nat.reduceBEq, Nat.reduceMod, Nat.reduceDiv, Nat.reducePow, reduceCtorEq] <;> with_reducible rfl); all_goals (intro h; first | (exfalso; omega) | (simp only [h, decide_true, decide_false, not_true, not_false_iff])))
      | (apply aL_guardP; (· simp (disch := (first | omega | (simp only [List.length_set, List.length_append, List.length_cons, List.length_nil, List.length_take, List.length_drop, List.length_replicate, List.length_map, length_bl]; omega))) only [go_sem, get_miss, Nat.reduceEqDiff, ↓reduceIte, Nat.reduceAdd, Nat.reduceMul, Nat.reduceSub, Nat.reduceLT, Nat.reduceLeDiff, Int.reduceToNat, Int.reducePow, Int.reduceLE, Int.reduceLT, Int.reduceNeg, Int.reduceMul, Int.reduceAdd, Int.reduceSub, Nat.reduceBEq, Nat.reduceMod, Nat.reduceDiv, Nat.reducePow, reduceCtorEq] <;> with_reducible rfl); all_goals (intro h; first | (exfalso; omega) | (simp only [h, decide_true, decide_false, not_true, not_false_iff])))
      | (refine aC_condT ?_ ?_; (· simp (disch := (first | omega | (simp only [List.length_set, List.length_append, List.length_cons, List.length_nil, List.length_take, List.length_drop, List.length_replicate, List.length_map, length_bl]; omega))) only [go_sem, get_miss, Nat.reduceEqDiff, ↓reduceIte, Nat.reduceAdd, Nat.reduceMul, Nat.reduceSub, Nat.reduceLT, Nat.reduceLeDiff, Int.reduceToNat, Int.reducePow, Int.reduceLE, Int.reduceLT, Int.reduceNeg, Int.reduceMul, Int.reduceAdd, Int.reduceSub, Nat.reduceBEq, Nat.reduceMod, Nat.reduceDiv, Nat.reducePow, reduceCtorEq]))
      | (refine aC_condF ?_ ?_; (· simp (disch := (first | omega | (simp only [List.length_set, List.length_append, List.length_cons, List.length_nil, List.length_take, List.length_drop, List.length_replicate, List.length_map, length_bl]; omega))) only [go_sem, get_miss, Nat.reduceEqDiff, ↓reduceIte, Nat.reduceAdd, Nat.reduceMul, Nat.reduceSub, Nat.reduceLT, Nat.reduceLeDiff, Int.reduceToNat, Int.reducePow, Int.reduceLE, Int.reduceLT, Int.reduceNeg, Int.reduceMul, Int.reduceAdd, Int.reduceSub, Nat.reduceBEq, Nat.reduceMod, Nat.reduceDiv, Nat.reducePow, reduceCtorEq]))
      | (refine aC_condP (by simp (disch := (first | omega | (simp only [List.length_set, List.length_append, List.length_cons, List.length_nil, List.length_take, List.length_drop, List.length_replicate, List.length_map, length_bl]; omega))) only [go_sem, get_miss, Nat.reduceEqDiff, ↓reduceIte, Nat.reduceAdd, Nat.reduceMul, Nat.reduceSub, Nat.reduceLT, Nat.reduceLeDiff, Int.reduceToNat, Int.reducePow, Int.reduceLE, Int.reduceLT, Int.reduceNeg, Int.reduceMul, Int.reduceAdd, Int.reduceSub, Nat.reduceBEq, Nat.reduceMod, Nat.reduceDiv, Nat.reducePow, reduceCtorEq] <;> with_reducible rfl) ?_ ?_ <;> (intro h; first | (exfalso; omega) | skip))
      | (apply aL_pure cxG (hmay); (case hg => (simp (disch := (first | omega | (simp only [List.length_set, List.length_append, List.length_cons, List.length_nil, List.length_take, List.length_drop, List.length_replicate, List.length_map, length_bl]; omega))) only [go_sem, get_miss, Nat.reduceEqDiff, ↓reduceIte, Nat.reduceAdd, Nat.reduceMul, Nat.reduceSub, Nat.reduceLT, Nat.reduceLeDiff, Int.reduceToNat, Int.reducePow, Int.reduceLE, Int.reduceLT, Int.reduceNeg, Int.reduceMul, Int.reduceAdd, Int.reduceSub, Nat.reduceBEq, Nat.reduceMod, Nat.reduceDiv, Nat.reducePow, reduceCtorEq])); (case hx => (simp (disch := (first | omega | (simp only [List.length_set, List.length_append, List.length_cons, List.length_nil, List.length_take, List.length_drop, List.length_replicate, List.length_map, length_bl]; omega))) only [go_sem, get_miss, Nat.reduceEqDiff, ↓reduceIte, Nat.reduceAdd, Nat.reduceMul, Nat.reduceSub, Nat.reduceLT, Nat.reduceLeDiff, Int.reduceToNat, Int.reducePow, Int.reduceLE, Int.reduceLT, Int.reduceNeg, Int.reduceMul, Int.reduceAdd, Int.reduceSub, Nat.reduceBEq, Nat.reduceMod, Nat.reduceDiv, Nat.reducePow, reduceCtorEq] <;> with_reducible rfl)); (case ha => (simp (disch := (first | omega | (simp only [List.length_set, List.length_append, List.length_cons, List.length_nil, List.length_take, List.length_drop, List.length_replicate, List.length_map, length_bl]; omega))) only [go_sem, get_miss, Nat.reduceEqDiff, ↓reduceIte, Nat.reduceAdd, Nat.reduceMul, Nat.reduceSub, Nat.reduceLT, Nat.reduceLeDiff, Int.reduceToNat, Int.reducePow, Int.reduceLE, Int.reduceLT, Int.reduceNeg, Int.reduceMul, Int.reduceAdd, Int.reduceSub, Nat.reduceBEq, Nat.reduceMod, Nat.reduceDiv, Nat.reducePow, reduceCtorEq] <;> with_reducible rfl)); (case he => (simp only [go_sem] <;> with_reducible rfl)); (case hcl => (simp)); (case hf => (simp only [go_sem] <;> with_reducible rfl)))
      | fail)
  all_goals try refine aC_regB (U := [(some 33, some 45)]) rfl [(some 33, 1), (some 36, 1), (some 39, 0), (some 41, 1), (some 44, 0)] ?_
  all_goals try refine aC_regB (U := [(some 88, none)]) rfl [(some 86, 0), (some 88, 1)] ?_
  all_goals try refine aC_regB (U := [(some 92, none)]) rfl [(some 90, 0), (some 92, 1)] ?_
  all_goals
    repeat' (first
      | refine aLB_nil ?_
      | (apply aLB_step; (· exact True.intro); (· exact (by intro h; cases h)); (· rfl); (· simp (disch := (first | omega | (simp only [List.length_set, List.length_append, List.length_cons, List.length_nil, List.length_take, List.length_drop, List.length_replicate, List.length_map, length_bl]; omega))) only [go_sem, get_miss, Nat.reduceEqDiff, ↓reduceIte, Nat.reduceAdd, Nat.reduceMul, Nat.reduceSub, Nat.reduceLT, Nat.reduceLeDiff, Int.reduceToNat, Int.reducePow, Int.reduceLE, Int.reduceLT, Int.reduceNeg, Int.reduceMul, Int.reduceAdd, Int.reduceSub, Nat.reduceBEq, Nat.reduceMod, Nat.reduceDiv, Nat.reducePow, reduceCtorEq]); (· simp (disch := (first | omega | (simp only [List.length_set, List.length_append, List.length_cons, List.length_nil, List.length_take, List.length_drop, List.length_replicate, List.length_map, length_bl]; omega))) only [go_sem, get_miss, Nat.reduceEqDiff, ↓reduceIte, Nat.reduceAdd, Nat.reduceMul, Nat.reduceSub, Nat.reduceLT, Nat.reduceLeDiff, Int.reduceToNat, Int.reducePow, Int.reduceLE, Int.reduceLT, Int.reduceNeg, Int.reduceMul, Int.reduceAdd, Int.reduceSub, Nat.reduceBEq, Nat.reduceMod, Nat.reduceDiv, Nat.reducePow, reduceCtorEq] <;> with_reducible rfl); (· simp only [go_sem] <;> with_reducible rfl); (· (intro b hb; first | (cases hb; done) | (simp (disch := (first | omega | (simp only [List.length_set, List.length_append, List.length_cons, List.length_nil, List.length_take, List.length_drop, List.length_replicate, List.length_map, length_bl]; omega))) only [loadBox, go_sem, get_miss, Nat.reduceEqDiff, ↓reduceIte, Nat.reduceAdd, Nat.reduceMul, Nat.reduceSub, Nat.reduceLT, Nat.reduceLeDiff, Int.reduceToNat, Int.reducePow, Int.reduceLE, Int.reduceLT, Int.reduceNeg, Int.reduceMul, Int.reduceAdd, Int.reduceSub, Nat.reduceBEq, Nat.reduceMod, Nat.reduceDiv, Nat.reducePow, reduceCtorEq] at hb; (try injection hb with hb); subst hb; simp))))
      | (apply aLB_write; (· exact True.intro); (· rfl); (· rfl); (· simp (disch := (first | omega | (simp only [List.length_set, List.length_append, List.length_cons, List.length_nil, List.length_take, List.length_drop, List.length_replicate, List.length_map, length_bl]; omega))) only [go_sem, get_miss, Nat.reduceEqDiff, ↓reduceIte, Nat.reduceAdd, Nat.reduceMul, Nat.reduceSub, Nat.reduceLT, Nat.reduceLeDiff, Int.reduceToNat, Int.reducePow, Int.reduceLE, Int.reduceLT, Int.reduceNeg, Int.reduceMul, Int.reduceAdd, Int.reduceSub, Nat.reduceBEq, Nat.reduceMod, Nat.reduceDiv, Nat.reducePow, reduceCtorEq]); (· simp (disch := (first | omega | (simp only [List.length_set, List.length_append, List.length_cons, List.length_nil, List.length_take, List.length_drop, List.length_replicate, List.length_map, length_bl]; omega))) only [go_sem, get_miss, Nat.reduceEqDiff, ↓reduceIte, Nat.reduceAdd, Nat.reduceMul, Nat.reduceSub, Nat.reduceLT, Nat.reduceLeDiff, Int.reduceToNat, Int.reducePow, Int.reduceLE, Int.reduceLT, Int.reduceNeg, Int.reduceMul, Int.reduceAdd, Int.reduceSub, Nat.reduceBEq, Nat.reduceMod, Nat.reduceDiv, Nat.reducePow, reduceCtorEq] <;> with_reducible rfl); (· simp only [go_sem] <;> with_reducible rfl); (· simp))
      | (refine aLB_skip ?_ (by simp only [go_sem] <;> with_reducible rfl) ?_; (· simp (disch := (first | omega | (simp only [List.length_set, List.length_append, List.length_cons, List.length_nil, List.length_take, List.length_drop, List.length_replicate, List.length_map, length_bl]; omega))) only [go_sem, get_miss, Nat.reduceEqDiff, ↓reduceIte, Nat.reduceAdd, Nat.reduceMul, Nat.reduceSub, Nat.reduceLT, Nat.reduceLeDiff, Int.reduceToNat, Int.reducePow, Int.reduceLE, Int.reduceLT, Int.reduceNeg, Int.reduceMul, Int.reduceAdd, Int.reduceSub, Nat.reduceBEq, Nat.reduceMod, Nat.reduceDiv, Nat.reducePow, reduceCtorEq]))
      | (apply aLB_pure cxG (hsum); (case hg => (simp (disch := (first | omega | (simp only [List.length_set, List.length_append, List.length_cons, List.length_nil, List.length_take, List.length_drop, List.length_replicate, List.length_map, length_bl]; omega))) only [go_sem, get_miss, Nat.reduceEqDiff, ↓reduceIte, Nat.reduceAdd, Nat.reduceMul, Nat.reduceSub, Nat.reduceLT, Nat.reduceLeDiff, Int.reduceToNat, Int.reducePow, Int.reduceLE, Int.reduceLT, Int.reduceNeg, Int.reduceMul, Int.reduceAdd, Int.reduceSub, Nat.reduceBEq, Nat.reduceMod, Nat.reduceDiv, Nat.reducePow, reduceCtorEq])); (case hx => (simp (disch := (first | omega | (simp only [List.length_set, List.length_append, List.length_cons, List.length_nil, List.length_take, List.length_drop, List.length_replicate, List.length_map, length_bl]; omega))) only [go_sem, get_miss, Nat.reduceEqDiff, ↓reduceIte, Nat.reduceAdd, Nat.reduceMul, Nat.reduceSub, Nat.reduceLT, Nat.reduceLeDiff, Int.reduceToNat, Int.reducePow, Int.reduceLE, Int.reduceLT, Int.reduceNeg, Int.reduceMul, Int.reduceAdd, Int.reduceSub, Nat.reduceBEq, Nat.reduceMod, Nat.reduceDiv, Nat.reducePow, reduceCtorEq] <;> with_reducible rfl)); (case ha => (simp (disch := (first | omega | (simp only [List.length_set, List.length_append, List.length_cons, List.length_nil, List.length_take, List.length_drop, List.length_replicate, List.length_map, length_bl]; omega))) only [go_sem, get_miss, Nat.reduceEqDiff, ↓reduceIte, Nat.reduceAdd, Nat.reduceMul, Nat.reduceSub, Nat.reduceLT, Nat.reduceLeDiff, Int.reduceToNat, Int.reducePow, Int.reduceLE, Int.reduceLT, Int.reduceNeg, Int.reduceMul, Int.reduceAdd, Int.reduceSub, Nat.reduceBEq, Nat.reduceMod, Nat.reduceDiv, Nat.reducePow, reduceCtorEq] <;> with_reducible rfl)); (case he => (simp only [go_sem] <;> with_reducible rfl)); (case hcl => (simp)); (case hf => (simp only [go_sem] <;> with_reducible rfl)))
      | fail)
  all_goals
    repeat' (first
      | refine aC_seq ?_
      | refine aC_reg rfl ?_
      | refine aC_block ?_
      | refine aC_skip ?_
      | refine aC_loop ?_
      | refine aC_scope ?_
      | refine scopeQ_normal ?_
      | refine scopeQ_exit ?_
      | refine scopeQ_ret ?_
      | refine aC_exit ?_
      | refine aC_ret ?_
      | refine thenQ_normal ?_
      | refine blockQ_normal ?_
      | refine thenQ_ret ?_
      | refine blockQ_ret ?_
      | refine thenQ_exit ?_
      | refine blockQ_hit ?_
      | refine blockQ_miss rfl ?_
      | refine aL_nil ?_
      | (apply aL_step; (· exact True.intro); (· simp (disch := (first | omega | (simp only [List.length_set, List.length_append, List.length_cons, List.length_nil, List.length_take, List.length_drop, List.length_replicate, List.length_map, length_bl]; omega))) only [go_sem, get_miss, Nat.reduceEqDiff, ↓reduceIte, Nat.reduceAdd, Nat.reduceMul, Nat.reduceSub, Nat.reduceLT, Nat.reduceLeDiff, Int.reduceToNat, Int.reducePow, Int.reduceLE, Int.reduceLT, Int.reduceNeg, Int.reduceMul, Int.reduceAdd, Int.reduceSub, Nat.reduceBEq, Nat.reduceMod, Nat.reduceDiv, Nat.reducePow, reduceCtorEq]); (· simp (disch := (first | omega | (simp only [List.length_set, List.length_append, List.length_cons, List.length_nil, List.length_take, List.length_drop, List.length_replicate, List.length_map, length_bl]; omega))) only [go_sem, get_miss, Nat.reduceEqDiff, ↓reduceIte, Nat.reduceAdd, Nat.reduceMul, Nat.reduceSub, Nat.reduceLT, Nat.reduceLeDiff, Int.reduceToNat, Int.reducePow, Int.reduceLE, Int.reduceLT, Int.reduceNeg, Int.reduceMul, Int.reduceAdd, Int.reduceSub, Nat.reduceBEq, Nat.reduceMod, Nat.reduceDiv, Nat.reducePow, reduceCtorEq] <;> with_reducible rfl); (· simp only [go_sem] <;> with_reducible rfl))
      | (refine aL_skip ?_ (by simp only [go_sem] <;> with_reducible rfl) ?_; (· simp (disch := (first | omega | (simp only [List.length_set, List.length_append, List.length_cons, List.length_nil, List.length_take, List.length_drop, List.length_replicate, List.length_map, length_bl]; omega))) only [go_sem, get_miss, Nat.reduceEqDiff, ↓reduceIte, Nat.reduceAdd, Nat.reduceMul, Nat.reduceSub, Nat.reduceLT, Nat.reduceLeDiff, Int.reduceToNat, Int.reducePow, Int.reduceLE, Int.reduceLT, Int.reduceNeg, Int.reduceMul, Int.reduceAdd, Int.reduceSub, Nat.reduceBEq, Nat.reduceMod, Nat.reduceDiv, Nat.reducePow, reduceCtorEq]))
      | (apply aL_guardN; (· simp (disch := (first | omega | (simp only [List.length_set, List.length_append, List.length_cons, List.length_nil, List.length_take, List.length_drop, List.length_replicate, List.length_map, length_bl]; omega))) only [go_sem, get_miss, Nat.reduceEqDiff, ↓reduceIte, Nat.reduceAdd, Nat.reduceMul, Nat.reduceSub, Nat.reduceLT, Nat.reduceLeDiff, Int.reduceToNat, Int.reducePow, Int.reduceLE, Int.reduceLT, Int.reduceNeg, Int.reduceMul, Int.reduceAdd, Int.reduceSub, Nat.reduceBEq, Nat.reduceMod, Nat.reduceDiv, Nat.reducePow, reduceCtorEq] <;> with_reducible rfl); all_goals (intro h; first | (exfalso; omega) | (simp only [h, decide_true, decide_false, not_true, not_false_iff])))
      | (apply aL_guardP; (· simp (disch := (first | omega | (simp only [List.length_set, List.length_append, List.length_cons, List.length_nil, List.length_take, List.length_drop, List.length_replicate, List.length_map, length_bl]; omega))) only [go_sem, get_miss, Nat.reduceEqDiff, ↓reduceIte, Nat.reduceAdd, Nat.reduceMul, Nat.reduceSub, Nat.reduceLT, Nat.reduceLeDiff, Int.reduceToNat, Int.reducePow, Int.reduceLE, Int.reduceLT, Int.reduceNeg, Int.reduceMul, Int.reduceAdd, Int.reduceSub, Nat.reduceBEq, Nat.reduceMod, Nat.reduceDiv, Nat.reducePow, reduceCtorEq] <;> with_reducible rfl); all_goals (intro h; first | (exfalso; omega) | (simp only [h, decide_true, decide_false, not_true, not_false_iff])))
      | (refine aC_condT ?_ ?_; (· simp (disch := (first | omega | (simp only [List.length_set, List.length_append, List.length_cons, List.length_nil, List.length_take, List.length_drop, List.length_replicate, List.length_map, length_bl]; omega))) only [go_sem, get_miss, Nat.reduceEqDiff, ↓reduceIte, Nat.reduceAdd, Nat.reduceMul, Nat.reduceSub, Nat.reduceLT, Nat.reduceLeDiff, Int.reduceToNat, Int.reducePow, Int.reduceLE, Int.reduceLT, Int.reduceNeg, Int.reduceMul, Int.reduceAdd, Int.reduceSub, Nat.reduceBEq, Nat.reduceMod, Nat.reduceDiv, Nat.reducePow, reduceCtorEq]))
      | (refine aC_condF ?_ ?_; (· simp (disch := (first | omega | (simp only [List.length_set, List.length_append, List.length_cons, List.length_nil, List.length_take, List.length_drop, List.length_replicate, List.length_map, length_bl]; omega))) only [go_sem, get_miss, Nat.reduceEqDiff, ↓reduceIte, Nat.reduceAdd, Nat.reduceMul, Nat.reduceSub, Nat.reduceLT, Nat.reduceLeDiff, Int.reduceToNat, Int.reducePow, Int.reduceLE, Int.reduceLT, Int.reduceNeg, Int.reduceMul, Int.reduceAdd, Int.reduceSub, Nat.reduceBEq, Nat.reduceMod, Nat.reduceDiv, Nat.reducePow, reduceCtorEq]))
      | (refine aC_condP (by simp (disch := (first | omega | (simp only [List.length_set, List.length_append, List.length_cons, List.length_nil, List.length_take, List.length_drop, List.length_replicate, List.length_map, length_bl]; omega))) only [go_sem, get_miss, Nat.reduceEqDiff, ↓reduceIte, Nat.reduceAdd, Nat.reduceMul, Nat.reduceSub, Nat.reduceLT, Nat.reduceLeDiff, Int.reduceToNat, Int.reducePow, Int.reduceLE, Int.reduceLT, Int.reduceNeg, Int.reduceMul, Int.reduceAdd, Int.reduceSub, Nat.reduceBEq, Nat.reduceMod, Nat.reduceDiv, Nat.reducePow, reduceCtorEq] <;> with_reducible rfl) ?_ ?_ <;> (intro h; first | (exfalso; omega) | skip))
      | fail)
  all_goals try (first | exact True.intro | omega)
  all_goals try (simp (disch := (first | omega | (simp only [List.length_set, List.length_append, List.length_cons, List.length_nil, List.length_take, List.length_drop, List.length_replicate, List.length_map, length_bl]; omega))) only [go_sem, get_miss, Nat.reduceEqDiff, ↓reduceIte, Nat.reduceAdd, Nat.reduceMul, Nat.reduceSub, Nat.reduceLT, Nat.reduceLeDiff, Int.reduceToNat, Int.reducePow, Int.reduceLE, Int.reduceLT, Int.reduceNeg, Int.reduceMul, Int.reduceAdd, Int.reduceSub, Nat.reduceBEq, Nat.reduceMod, Nat.reduceDiv, Nat.reducePow, reduceCtorEq] <;> first | exact True.intro | omega)
  all_goals (clear hmay)
  all_goals try clear hl
  all_goals try clear hsum
  all_goals try (simp (disch := (first | omega | (simp only [List.length_set, List.length_append, List.length_cons, List.length_nil, List.length_take, List.length_drop, List.length_replicate, List.length_map, length_bl]; omega))) only [go_sem, get_miss, Nat.reduceEqDiff, ↓reduceIte, Nat.reduceAdd, Nat.reduceMul, Nat.reduceSub, Nat.reduceLT, Nat.reduceLeDiff, Int.reduceToNat, Int.reducePow, Int.reduceLE, Int.reduceLT, Int.reduceNeg, Int.reduceMul, Int.reduceAdd, Int.reduceSub, Nat.reduceBEq, Nat.reduceMod, Nat.reduceDiv, Nat.reducePow, reduceCtorEq])
  all_goals try simp
  all_goals try exact ⟨sum_keys _, sum_one _⟩
  all_goals try omega
  all_goals try exact ⟨by omega, fun x hx => ws_clo _ x hx⟩
end Go.Am
end
