/- A range over the operations: call.Ops, its rounds; call.Op at any text; once. -/
import Derived.Test.YtikookfljnilpaaDoorL10
import Derived.Test.YtikookfljnilpaaDoorL30
import Derived.Test.YtikookfljnilpaaDoorAmWalkE
set_option linter.unusedVariables false
set_option linter.unusedSimpArgs false
namespace Go.Am
open Go Go.Proofs
set_option linter.unusedSimpArgs false
set_option linter.unusedVariables false
set_option maxHeartbeats 8000000
set_option maxRecDepth 100000
section
attribute [local irreducible] aC aL thenQ blockQ scopeQ ALoop AWp

theorem call_Ops : APure cx 41 [] (.fn (.func 58) [] []) := by
  refine pure_fn cxOk Tryd.func41 (by kernel_rfl) (fun _ => false) (fun _ => none) (by kernel_rfl) (Nat.le_of_ble_eq_true (by kernel_rfl)) ?_
  dsimp only [LB, Tryd.f41, lite, nextOf, Option.isNone, Bool.not_true, Bool.not_false, Bool.and_true, Bool.true_and, Bool.false_and, Bool.and_self, Bool.false_eq_true, if_false, if_true, ↓reduceIte, liteO, List.map, Option.map, frame0, List.zipIdx, Nat.reduceAdd]
  try simp only [List.getElem?_toArray, List.getElem?_cons_succ, List.getElem?_cons_zero, Option.bind_some]
  repeat' (first
    | refine aC_seq ?_
    | refine aC_reg rfl ?_
    | refine aC_ret ?_
    | refine thenQ_normal ?_
    | refine aL_nil ?_
    | (apply aL_step; (· exact True.intro); (· simp (disch := first | omega | (simp only [go_sem]; omega)) only [go_sem, get_miss, seval, reduceCtorEq]); (· simp (disch := first | omega | (simp only [go_sem]; omega)) only [go_sem, get_miss, seval, reduceCtorEq] <;> with_reducible rfl); (· simp only [go_sem] <;> with_reducible rfl))
    | fail)
  all_goals try (first | exact True.intro | exact not_false | omega)
  all_goals try (simp (disch := first | omega | (simp only [go_sem]; omega)) only [go_sem, get_miss, seval, reduceCtorEq] <;> first | exact True.intro | omega)
  all_goals try (simp (disch := first | omega | (simp only [go_sem]; omega)) only [go_sem, get_miss, seval, reduceCtorEq])
  all_goals try simp

theorem call_Ops1 (i : Nat) (T : Nat → St) (T' : St) (m : Nat) (hm : 1 ≤ m ∧ m ≤ 22) (hy : ∀ k : Nat, 1 ≤ k → k < m → AYield cx i [.int .i64 ((k : Nat) : Int), .str (cnm ((k : Nat) : Int))] (T k) (.bool true) (T (k + 1)))
    (he : (m = 22 ∧ T' = T 22) ∨ (m ≤ 21 ∧ AYield cx i [.int .i64 ((m : Nat) : Int), .str (cnm ((m : Nat) : Int))] (T m) (.bool false) T')) : ACall cx 58 [.yld i] (T 1) (.tup []) T' := by
  refine acall_fn cxOk Tryd.func58 (by kernel_rfl) (fun _ => false) (fun _ => none) (by kernel_rfl) (Nat.le_of_ble_eq_true (by kernel_rfl)) ?_
  dsimp only [LB, Tryd.f58, lite, nextOf, Option.isNone, Bool.not_true, Bool.not_false, Bool.and_true, Bool.true_and, Bool.false_and, Bool.and_self, Bool.false_eq_true, if_false, if_true, ↓reduceIte, liteO, List.map, Option.map, frame0, List.zipIdx, Nat.reduceAdd]
  try simp only [List.getElem?_toArray, List.getElem?_cons_succ, List.getElem?_cons_zero, Option.bind_some]
  repeat' (first
    | refine aC_seq ?_
    | refine aC_reg rfl ?_
    | refine aC_block ?_
    | refine aC_loop ?_
    | refine thenQ_normal ?_
    | refine aL_nil ?_
    | (apply aL_step; (· exact True.intro); (· simp (disch := first | omega | (simp only [go_sem]; omega)) only [go_sem, get_miss, seval, reduceCtorEq]); (· simp (disch := first | omega | (simp only [go_sem]; omega)) only [go_sem, get_miss, seval, reduceCtorEq] <;> with_reducible rfl); (· simp only [go_sem] <;> with_reducible rfl))
    | fail)
  · refine loop_rule (cxOk.wp _ _) (σ := Nat) (fun k => [(2, .int .i64 k), (0, .yld i)]) T (fun k => 22 - k) (fun k => 1 ≤ k ∧ k ≤ m) 1 (GStep.refl _ _) ⟨⟨Nat.le_refl _, hm.1⟩, Sub.of_all (by simp [Fr.get, frame0]), rfl⟩ ?_
    rintro k ⟨h1, h2⟩
    have hn := call_Name ((k : Nat) : Int)
    by_cases hk : k < m
    · have hyk := hy k h1 hk
      clear hy he
      generalize cnm ((k : Nat) : Int) = W at *
      repeat' (first
        | refine aC_seq ?_
        | refine aC_reg rfl ?_
        | refine aC_block ?_
        | refine aC_skip ?_
        | refine thenQ_normal ?_
        | refine blockQ_normal ?_
        | refine aL_nil ?_
        | (apply aL_step; (· exact True.intro); (· simp (disch := first | omega | (simp only [go_sem]; omega)) only [go_sem, get_miss, seval, reduceCtorEq]); (· simp (disch := first | omega | (simp only [go_sem]; omega)) only [go_sem, get_miss, seval, reduceCtorEq] <;> with_reducible rfl); (· simp only [go_sem] <;> with_reducible rfl))
        | (refine aC_condF ?_ ?_; (· simp (disch := first | omega | (simp only [go_sem]; omega)) only [go_sem, get_miss, seval, reduceCtorEq]))
        | (refine aC_condP (by simp (disch := first | omega | (simp only [go_sem]; omega)) only [go_sem, get_miss, seval, reduceCtorEq] <;> with_reducible rfl) ?_ ?_ <;> (intro h; first | (exfalso; omega) | skip))
        | (apply aL_pure cxG (hn); (case hg => (simp (disch := first | omega | (simp only [go_sem]; omega)) only [go_sem, get_miss, seval, reduceCtorEq])); (case hx => (simp (disch := first | omega | (simp only [go_sem]; omega)) only [go_sem, get_miss, seval, reduceCtorEq] <;> with_reducible rfl)); (case ha => (simp (disch := first | omega | (simp only [go_sem]; omega)) only [go_sem, get_miss, seval, reduceCtorEq] <;> with_reducible rfl)); (case he => (simp only [go_sem] <;> with_reducible rfl)); (case hcl => (simp)); (case hf => (simp only [go_sem] <;> with_reducible rfl)))
        | (apply aL_yield (hyk); (case hg => (simp (disch := first | omega | (simp only [go_sem]; omega)) only [go_sem, get_miss, seval, reduceCtorEq])); (case hx => (simp (disch := first | omega | (simp only [go_sem]; omega)) only [go_sem, get_miss, seval, reduceCtorEq] <;> with_reducible rfl)); (case ha => (simp (disch := first | omega | (simp only [go_sem]; omega)) only [go_sem, get_miss, seval, reduceCtorEq] <;> with_reducible rfl)); (case he => (with_reducible rfl)); (case hf => (simp only [go_sem] <;> with_reducible rfl)))
        | fail)
      all_goals try (first | exact True.intro | exact not_false | omega)
      all_goals try (simp (disch := first | omega | (simp only [go_sem]; omega)) only [go_sem, get_miss, seval, reduceCtorEq] <;> first | exact True.intro | omega)
      all_goals exact ⟨k + 1, ⟨by omega, by omega⟩, Sub.of_all (by simp [Fr.get]), rfl, by omega⟩
    · have hk : k = m := by omega
      subst hk
      clear hy
      rcases he with ⟨rfl, rfl⟩ | ⟨hm2, he⟩
      · clear hn
        repeat' (first
          | refine aC_seq ?_
          | refine aC_reg rfl ?_
          | refine aC_exit ?_
          | refine thenQ_normal ?_
          | refine thenQ_exit ?_
          | refine blockQ_hit ?_
          | refine aL_nil ?_
          | (apply aL_step; (· exact True.intro); (· simp (disch := first | omega | (simp only [go_sem]; omega)) only [go_sem, get_miss, seval, reduceCtorEq]); (· simp (disch := first | omega | (simp only [go_sem]; omega)) only [go_sem, get_miss, seval, reduceCtorEq] <;> with_reducible rfl); (· simp only [go_sem] <;> with_reducible rfl))
          | (refine aC_condF ?_ ?_; (· simp (disch := first | omega | (simp only [go_sem]; omega)) only [go_sem, get_miss, seval, reduceCtorEq]))
          | fail)
        all_goals try (first | exact True.intro | exact not_false | omega)
        all_goals try (simp (disch := first | omega | (simp only [go_sem]; omega)) only [go_sem, get_miss, seval, reduceCtorEq] <;> first | exact True.intro | omega)
        all_goals try (simp (disch := first | omega | (simp only [go_sem]; omega)) only [go_sem, get_miss, seval, reduceCtorEq])
        all_goals try simp
      · generalize cnm ((k : Nat) : Int) = W at *
        repeat' (first
          | refine aC_seq ?_
          | refine aC_reg rfl ?_
          | refine aC_block ?_
          | refine aC_skip ?_
          | refine aC_ret ?_
          | refine thenQ_normal ?_
          | refine thenQ_ret ?_
          | refine blockQ_ret ?_
          | refine aL_nil ?_
          | (apply aL_step; (· exact True.intro); (· simp (disch := first | omega | (simp only [go_sem]; omega)) only [go_sem, get_miss, seval, reduceCtorEq]); (· simp (disch := first | omega | (simp only [go_sem]; omega)) only [go_sem, get_miss, seval, reduceCtorEq] <;> with_reducible rfl); (· simp only [go_sem] <;> with_reducible rfl))
          | (refine aC_condT ?_ ?_; (· simp (disch := first | omega | (simp only [go_sem]; omega)) only [go_sem, get_miss, seval, reduceCtorEq]))
          | (refine aC_condP (by simp (disch := first | omega | (simp only [go_sem]; omega)) only [go_sem, get_miss, seval, reduceCtorEq] <;> with_reducible rfl) ?_ ?_ <;> (intro h; first | (exfalso; omega) | skip))
          | (apply aL_pure cxG (hn); (case hg => (simp (disch := first | omega | (simp only [go_sem]; omega)) only [go_sem, get_miss, seval, reduceCtorEq])); (case hx => (simp (disch := first | omega | (simp only [go_sem]; omega)) only [go_sem, get_miss, seval, reduceCtorEq] <;> with_reducible rfl)); (case ha => (simp (disch := first | omega | (simp only [go_sem]; omega)) only [go_sem, get_miss, seval, reduceCtorEq] <;> with_reducible rfl)); (case he => (simp only [go_sem] <;> with_reducible rfl)); (case hcl => (simp)); (case hf => (simp only [go_sem] <;> with_reducible rfl)))
          | (apply aL_yield (he); (case hg => (simp (disch := first | omega | (simp only [go_sem]; omega)) only [go_sem, get_miss, seval, reduceCtorEq])); (case hx => (simp (disch := first | omega | (simp only [go_sem]; omega)) only [go_sem, get_miss, seval, reduceCtorEq] <;> with_reducible rfl)); (case ha => (simp (disch := first | omega | (simp only [go_sem]; omega)) only [go_sem, get_miss, seval, reduceCtorEq] <;> with_reducible rfl)); (case he => (with_reducible rfl)); (case hf => (simp only [go_sem] <;> with_reducible rfl)))
          | fail)
        all_goals try (first | exact True.intro | exact not_false | omega)
        all_goals try (simp (disch := first | omega | (simp only [go_sem]; omega)) only [go_sem, get_miss, seval, reduceCtorEq] <;> first | exact True.intro | omega)
        all_goals try (simp (disch := first | omega | (simp only [go_sem]; omega)) only [go_sem, get_miss, seval, reduceCtorEq])
        all_goals try simp
  all_goals trivial

theorem call_OpsA (i : Nat) (A : Nat → St) {S1 : St} (h1 : A 1 = S1) (L : ABox) (T' : St) (m : Nat) (hm : 1 ≤ m ∧ m ≤ 22) (hy : ∀ k : Nat, 1 ≤ k → k < m → AYield cx i [.int .i64 ((k : Nat) : Int), .str (cnm ((k : Nat) : Int))] (A k ++ [L]) (.bool true) (A (k + 1) ++ [L]))
    (he : (m = 22 ∧ T' = A 22 ++ [L]) ∨ (m ≤ 21 ∧ AYield cx i [.int .i64 ((m : Nat) : Int), .str (cnm ((m : Nat) : Int))] (A m ++ [L]) (.bool false) T')) : ACall cx 58 [.yld i] (S1 ++ [L]) (.tup []) T' :=
  h1 ▸ call_Ops1 i (fun k => A k ++ [L]) T' m hm hy he

theorem call_OpNo (n : List UInt8) (hno : ∀ op : Int, 1 ≤ op ∧ op ≤ 21 → cnm op ≠ n) : APure cx 15 [.str n] (.int .i64 0) := by
  have ho := call_Ops
  refine pure_fn cxOk Tryd.func15 (by kernel_rfl) (fun _ => false) (fun _ => none) (by kernel_rfl) (Nat.le_of_ble_eq_true (by kernel_rfl)) ?_
  dsimp only [LB, Tryd.f15, lite, nextOf, Option.isNone, Bool.not_true, Bool.not_false, Bool.and_true, Bool.true_and, Bool.false_and, Bool.and_self, Bool.false_eq_true, if_false, if_true, ↓reduceIte, liteO, List.map, Option.map, frame0, List.zipIdx, Nat.reduceAdd]
  try simp only [List.getElem?_toArray, List.getElem?_cons_succ, List.getElem?_cons_zero, Option.bind_some]
  repeat' (first
    | refine aC_seq ?_
    | refine aC_reg rfl ?_
    | refine aC_block ?_
    | refine thenQ_normal ?_
    | refine aL_nil ?_
    | (apply aL_step; (· exact True.intro); (· simp (disch := first | omega | (simp only [go_sem]; omega)) only [go_sem, get_miss, seval, reduceCtorEq]); (· simp (disch := first | omega | (simp only [go_sem]; omega)) only [go_sem, get_miss, seval, reduceCtorEq] <;> with_reducible rfl); (· simp only [go_sem] <;> with_reducible rfl))
    | (apply aL_pure cxG (ho); (case hg => (simp (disch := first | omega | (simp only [go_sem]; omega)) only [go_sem, get_miss, seval, reduceCtorEq])); (case hx => (simp (disch := first | omega | (simp only [go_sem]; omega)) only [go_sem, get_miss, seval, reduceCtorEq] <;> with_reducible rfl)); (case ha => (simp (disch := first | omega | (simp only [go_sem]; omega)) only [go_sem, get_miss, seval, reduceCtorEq] <;> with_reducible rfl)); (case he => (simp only [go_sem] <;> with_reducible rfl)); (case hcl => (simp)); (case hf => (simp only [go_sem] <;> with_reducible rfl)))
    | fail)
  · refine aC_rangeFn (tag := 0) rfl (call_OpsA 2 (fun _ => [.cells [.str n] 9, .cells [.int .i64 0] 25]) rfl _ _ 22 (by decide) ?_ (.inl ⟨rfl, rfl⟩)) rfl (by intro h; cases h) ?_
    · intro k h1 h2
      have hb : (cnm (k : Int) == n) = false := by simp [hno (k : Int) ⟨by omega, by omega⟩]
      have he := hno (k : Int) ⟨by omega, by omega⟩
      generalize cnm (k : Int) = W at *
      refine ayield_hand cxOk (p := fun _ => false) (q := fun _ => none) rfl rfl (by kernel_rfl) (by kernel_rfl) (by kernel_rfl) (by kernel_rfl) (by kernel_rfl) rfl rfl ?_
      dsimp only [putAll, lite, nextOf, Option.isNone, Bool.not_true, Bool.not_false, Bool.and_true, Bool.true_and, Bool.false_and, Bool.and_self, Bool.false_eq_true, if_false, if_true, ↓reduceIte, liteO, List.map, Option.map, List.zipIdx, Nat.reduceAdd]
      try simp only [List.getElem?_toArray, List.getElem?_cons_succ, List.getElem?_cons_zero, Option.bind_some]
      repeat' (first
        | refine aC_seq ?_
        | refine aC_reg rfl ?_
        | refine thenQ_normal ?_
        | refine aL_nil ?_
        | (apply aL_step; (· exact True.intro); (· simp (disch := first | omega | (simp only [go_sem]; omega)) only [go_sem, get_miss, seval, reduceCtorEq, hb, he]); (· simp (disch := first | omega | (simp only [go_sem]; omega)) only [go_sem, get_miss, seval, reduceCtorEq, hb, he] <;> with_reducible rfl); (· simp only [go_sem] <;> with_reducible rfl))
        | fail)
      refine ⟨rfl, rfl, ?_⟩
      repeat' (first
        | refine aC_seq ?_
        | refine aC_reg rfl ?_
        | refine aC_block ?_
        | refine aC_skip ?_
        | refine thenQ_normal ?_
        | refine blockQ_normal ?_
        | refine aL_nil ?_
        | (apply aL_step; (· exact True.intro); (· simp (disch := first | omega | (simp only [go_sem]; omega)) only [go_sem, get_miss, seval, reduceCtorEq, hb, he, decide_false]); (· simp (disch := first | omega | (simp only [go_sem]; omega)) only [go_sem, get_miss, seval, reduceCtorEq, hb, he, decide_false] <;> with_reducible rfl); (· simp only [go_sem] <;> with_reducible rfl))
        | (refine aC_condF ?_ ?_; (· simp (disch := first | omega | (simp only [go_sem]; omega)) only [go_sem, get_miss, seval, reduceCtorEq, hb, he, decide_false]))
        | fail)
      all_goals try trivial
      all_goals exact ⟨rfl, rfl⟩
    · simp only [pendQ]
      repeat' (first
        | refine aC_seq ?_
        | refine aC_reg rfl ?_
        | refine aC_ret ?_
        | refine thenQ_normal ?_
        | refine blockQ_normal ?_
        | refine aL_nil ?_
        | (apply aL_step; (· exact True.intro); (· simp (disch := first | omega | (simp only [go_sem]; omega)) only [go_sem, get_miss, seval, reduceCtorEq]); (· simp (disch := first | omega | (simp only [go_sem]; omega)) only [go_sem, get_miss, seval, reduceCtorEq] <;> with_reducible rfl); (· simp only [go_sem] <;> with_reducible rfl))
        | fail)
      all_goals try (first | exact True.intro | exact not_false | omega)
      all_goals try (simp (disch := first | omega | (simp only [go_sem]; omega)) only [go_sem, get_miss, seval, reduceCtorEq] <;> first | exact True.intro | omega)
      all_goals try (simp (disch := first | omega | (simp only [go_sem]; omega)) only [go_sem, get_miss, seval, reduceCtorEq])
      all_goals try simp
  all_goals trivial

theorem call_OpR (n : List UInt8) (r : Int) (hr : ((1 ≤ r ∧ r ≤ 21) ∧ cnm r = n) ∨ (r = 0 ∧ ∀ op : Int, 1 ≤ op ∧ op ≤ 21 → cnm op ≠ n)) : APure cx 15 [.str n] (.int .i64 r) := by
  rcases hr with ⟨h, rfl⟩ | ⟨rfl, h⟩
  · exact call_Op h
  · exact call_OpNo n h

/-- A loop's box behind a round that has returned. -/
def doneL : ABox → ABox
  | .loop fr N ps asg body _ _ tag => .loop fr N ps asg body .done (some .ret) tag
  | b => b
theorem call_OpsD (i : Nat) (A : Nat → St) {S1 : St} (h1 : A 1 = S1) (B : St) (L : ABox) (m : Nat) (hm : 1 ≤ m ∧ m ≤ 21) (hy : ∀ k : Nat, 1 ≤ k → k < m → AYield cx i [.int .i64 ((k : Nat) : Int), .str (cnm ((k : Nat) : Int))] (A k ++ [L]) (.bool true) (A (k + 1) ++ [L]))
    (he : AYield cx i [.int .i64 ((m : Nat) : Int), .str (cnm ((m : Nat) : Int))] (A m ++ [L]) (.bool false) (B ++ [doneL L])) : ACall cx 58 [.yld i] (S1 ++ [L]) (.tup []) (B ++ [doneL L]) :=
  h1 ▸ call_Ops1 i (fun k => A k ++ [L]) _ m ⟨hm.1, by omega⟩ hy (.inr ⟨hm.2, he⟩)

theorem law_once (most : Int) : APure cx 17 [.int .i64 most] (.bool true) := by
  have ho := call_Ops
  refine pure_fn cxOk Tryd.func17 (by kernel_rfl) (fun _ => false) (fun _ => none) (by kernel_rfl) (Nat.le_of_ble_eq_true (by kernel_rfl)) ?_
  dsimp only [LB, Tryd.f17, lite, nextOf, Option.isNone, Bool.not_true, Bool.not_false, Bool.and_true, Bool.true_and, Bool.false_and, Bool.and_self, Bool.false_eq_true, if_false, if_true, ↓reduceIte, liteO, List.map, Option.map, frame0, List.zipIdx, Nat.reduceAdd]
  try simp only [List.getElem?_toArray, List.getElem?_cons_succ, List.getElem?_cons_zero, Option.bind_some]
  repeat' (first
    | refine aC_seq ?_
    | refine aC_reg rfl ?_
    | refine aC_block ?_
    | refine aC_skip ?_
    | refine thenQ_normal ?_
    | refine aL_nil ?_
    | (apply aL_step; (· exact True.intro); (· simp (disch := first | omega | (simp only [go_sem]; omega)) only [go_sem, get_miss, seval, reduceCtorEq]); (· simp (disch := first | omega | (simp only [go_sem]; omega)) only [go_sem, get_miss, seval, reduceCtorEq] <;> with_reducible rfl); (· simp only [go_sem] <;> with_reducible rfl))
    | (refine aC_condF ?_ ?_; (· simp (disch := first | omega | (simp only [go_sem]; omega)) only [go_sem, get_miss, seval, reduceCtorEq]))
    | (apply aL_pure cxG (ho); (case hg => (simp (disch := first | omega | (simp only [go_sem]; omega)) only [go_sem, get_miss, seval, reduceCtorEq])); (case hx => (simp (disch := first | omega | (simp only [go_sem]; omega)) only [go_sem, get_miss, seval, reduceCtorEq] <;> with_reducible rfl)); (case ha => (simp (disch := first | omega | (simp only [go_sem]; omega)) only [go_sem, get_miss, seval, reduceCtorEq] <;> with_reducible rfl)); (case he => (simp only [go_sem] <;> with_reducible rfl)); (case hcl => (simp)); (case hf => (simp only [go_sem] <;> with_reducible rfl)))
    | fail)
  · clear ho
    by_cases hc : 1 ≤ most ∧ most ≤ 21
    · obtain ⟨m, rfl⟩ : ∃ m : Nat, most = (m : Int) := ⟨most.toNat, by omega⟩
      refine aC_rangeFn (tag := 0) rfl (call_OpsD 3 (fun k => [.cells [.int .i64 ((m : Nat) : Int)] 3, .cells [.bool false] 4, .cells [.int .i64 (((k : Nat) : Int) - 1)] 3]) (by simp) [.cells [.int .i64 ((m : Nat) : Int)] 3, .cells [.bool true] 4, .cells [.int .i64 ((m : Nat) : Int)] 3] _ m ⟨by omega, by omega⟩ ?_ ?_) rfl (by intro h; cases h) ?_
      · intro k h1 h2
        have hr := ref_Name ((k : Nat) : Int)
        have hne : (((k : Nat) : Int) = ((m : Nat) : Int)) = False := eq_false (by omega)
        have e : (((k + 1 : Nat) : Nat) : Int) - 1 = ((k : Nat) : Int) := by omega
        dsimp only
        rw [e]
        clear e
        generalize cnm (k : Int) = W at *
        refine ayield_hand cxOk (p := fun _ => false) (q := fun _ => none) rfl rfl (by kernel_rfl) (by kernel_rfl) (by kernel_rfl) (by kernel_rfl) (by kernel_rfl) rfl rfl ?_
        dsimp only [putAll, lite, nextOf, Option.isNone, Bool.not_true, Bool.not_false, Bool.and_true, Bool.true_and, Bool.false_and, Bool.and_self, Bool.false_eq_true, if_false, if_true, ↓reduceIte, liteO, List.map, Option.map, List.zipIdx, Nat.reduceAdd]
        try simp only [List.getElem?_toArray, List.getElem?_cons_succ, List.getElem?_cons_zero, Option.bind_some]
        repeat' (first
          | refine aC_seq ?_
          | refine aC_reg rfl ?_
          | refine thenQ_normal ?_
          | refine aL_nil ?_
          | (apply aL_step; (· exact True.intro); (· simp (disch := first | omega | (simp only [go_sem]; omega)) only [go_sem, get_miss, seval, reduceCtorEq]); (· simp (disch := first | omega | (simp only [go_sem]; omega)) only [go_sem, get_miss, seval, reduceCtorEq] <;> with_reducible rfl); (· simp only [go_sem] <;> with_reducible rfl))
          | fail)
        refine ⟨rfl, rfl, ?_⟩
        repeat' (first
          | refine aC_seq ?_
          | refine aC_reg rfl ?_
          | refine aC_block ?_
          | refine aC_skip ?_
          | refine thenQ_normal ?_
          | refine blockQ_normal ?_
          | refine aL_nil ?_
          | (apply aL_step; (· exact True.intro); (· simp (disch := first | omega | (simp only [go_sem]; omega)) only [go_sem, get_miss, seval, reduceCtorEq, Int.sub_add_cancel, hne, decide_false, decide_true, not_true_eq_false, not_false_eq_true, eq_self_iff_true]); (· simp (disch := first | omega | (simp only [go_sem]; omega)) only [go_sem, get_miss, seval, reduceCtorEq, Int.sub_add_cancel, hne, decide_false, decide_true, not_true_eq_false, not_false_eq_true, eq_self_iff_true] <;> with_reducible rfl); (· simp only [go_sem] <;> with_reducible rfl))
          | (refine aC_condF ?_ ?_; (· simp (disch := first | omega | (simp only [go_sem]; omega)) only [go_sem, get_miss, seval, reduceCtorEq, Int.sub_add_cancel, hne, decide_false, decide_true, not_true_eq_false, not_false_eq_true, eq_self_iff_true]))
          | (apply aL_pure cxG (hr); (case hg => (simp (disch := first | omega | (simp only [go_sem]; omega)) only [go_sem, get_miss, seval, reduceCtorEq, Int.sub_add_cancel, hne, decide_false, decide_true, not_true_eq_false, not_false_eq_true, eq_self_iff_true])); (case hx => (simp (disch := first | omega | (simp only [go_sem]; omega)) only [go_sem, get_miss, seval, reduceCtorEq, Int.sub_add_cancel, hne, decide_false, decide_true, not_true_eq_false, not_false_eq_true, eq_self_iff_true] <;> with_reducible rfl)); (case ha => (simp (disch := first | omega | (simp only [go_sem]; omega)) only [go_sem, get_miss, seval, reduceCtorEq, Int.sub_add_cancel, hne, decide_false, decide_true, not_true_eq_false, not_false_eq_true, eq_self_iff_true] <;> with_reducible rfl)); (case he => (simp only [go_sem] <;> with_reducible rfl)); (case hcl => (simp)); (case hf => (simp only [go_sem] <;> with_reducible rfl)))
          | fail)
        all_goals try trivial
        all_goals exact ⟨rfl, rfl⟩
      · have hr := ref_Name ((m : Nat) : Int)
        generalize cnm (m : Int) = W at *
        dsimp only
        refine ayield_hand cxOk (p := fun _ => false) (q := fun _ => none) rfl rfl (by kernel_rfl) (by kernel_rfl) (by kernel_rfl) (by kernel_rfl) (by kernel_rfl) rfl rfl ?_
        dsimp only [putAll, lite, nextOf, Option.isNone, Bool.not_true, Bool.not_false, Bool.and_true, Bool.true_and, Bool.false_and, Bool.and_self, Bool.false_eq_true, if_false, if_true, ↓reduceIte, liteO, List.map, Option.map, List.zipIdx, Nat.reduceAdd]
        try simp only [List.getElem?_toArray, List.getElem?_cons_succ, List.getElem?_cons_zero, Option.bind_some]
        repeat' (first
          | refine aC_seq ?_
          | refine aC_reg rfl ?_
          | refine thenQ_normal ?_
          | refine aL_nil ?_
          | (apply aL_step; (· exact True.intro); (· simp (disch := first | omega | (simp only [go_sem]; omega)) only [go_sem, get_miss, seval, reduceCtorEq]); (· simp (disch := first | omega | (simp only [go_sem]; omega)) only [go_sem, get_miss, seval, reduceCtorEq] <;> with_reducible rfl); (· simp only [go_sem] <;> with_reducible rfl))
          | fail)
        refine ⟨rfl, rfl, ?_⟩
        repeat' (first
          | refine aC_seq ?_
          | refine aC_reg rfl ?_
          | refine aC_block ?_
          | refine aC_skip ?_
          | refine aC_ret ?_
          | refine thenQ_normal ?_
          | refine blockQ_ret ?_
          | refine aL_nil ?_
          | (apply aL_step; (· exact True.intro); (· simp (disch := first | omega | (simp only [go_sem]; omega)) only [go_sem, get_miss, seval, reduceCtorEq, Int.sub_add_cancel, decide_false, decide_true, not_true_eq_false, not_false_eq_true, eq_self_iff_true]); (· simp (disch := first | omega | (simp only [go_sem]; omega)) only [go_sem, get_miss, seval, reduceCtorEq, Int.sub_add_cancel, decide_false, decide_true, not_true_eq_false, not_false_eq_true, eq_self_iff_true] <;> with_reducible rfl); (· simp only [go_sem] <;> with_reducible rfl))
          | (refine aC_condT ?_ ?_; (· simp (disch := first | omega | (simp only [go_sem]; omega)) only [go_sem, get_miss, seval, reduceCtorEq, Int.sub_add_cancel, decide_false, decide_true, not_true_eq_false, not_false_eq_true, eq_self_iff_true]))
          | (refine aC_condF ?_ ?_; (· simp (disch := first | omega | (simp only [go_sem]; omega)) only [go_sem, get_miss, seval, reduceCtorEq, Int.sub_add_cancel, decide_false, decide_true, not_true_eq_false, not_false_eq_true, eq_self_iff_true]))
          | (apply aL_pure cxG (hr); (case hg => (simp (disch := first | omega | (simp only [go_sem]; omega)) only [go_sem, get_miss, seval, reduceCtorEq, Int.sub_add_cancel, decide_false, decide_true, not_true_eq_false, not_false_eq_true, eq_self_iff_true])); (case hx => (simp (disch := first | omega | (simp only [go_sem]; omega)) only [go_sem, get_miss, seval, reduceCtorEq, Int.sub_add_cancel, decide_false, decide_true, not_true_eq_false, not_false_eq_true, eq_self_iff_true] <;> with_reducible rfl)); (case ha => (simp (disch := first | omega | (simp only [go_sem]; omega)) only [go_sem, get_miss, seval, reduceCtorEq, Int.sub_add_cancel, decide_false, decide_true, not_true_eq_false, not_false_eq_true, eq_self_iff_true] <;> with_reducible rfl)); (case he => (simp only [go_sem] <;> with_reducible rfl)); (case hcl => (simp)); (case hf => (simp only [go_sem] <;> with_reducible rfl)))
          | fail)
        all_goals try trivial
        all_goals exact ⟨rfl, rfl⟩
      · simp only [pendQ]
        repeat' (first
          | refine thenQ_ret ?_
          | refine blockQ_ret ?_
          | fail)
        all_goals try (first | exact True.intro | exact not_false | omega)
        all_goals try (simp (disch := first | omega | (simp only [go_sem]; omega)) only [go_sem, get_miss, seval, reduceCtorEq] <;> first | exact True.intro | omega)
        all_goals try (simp (disch := first | omega | (simp only [go_sem]; omega)) only [go_sem, get_miss, seval, reduceCtorEq])
        all_goals try simp [doneL]
    · refine aC_rangeFn (tag := 0) rfl (call_OpsA 3 (fun k => [.cells [.int .i64 most] 3, .cells [.bool false] 4, .cells [.int .i64 (((k : Nat) : Int) - 1)] 3]) (by simp) _ _ 22 (by decide) ?_ (.inl ⟨rfl, rfl⟩)) rfl (by intro h; cases h) ?_
      · intro k h1 h2
        have hr := ref_Name ((k : Nat) : Int)
        have hne : (((k : Nat) : Int) = most) = False := eq_false (by omega)
        have e : (((k + 1 : Nat) : Nat) : Int) - 1 = ((k : Nat) : Int) := by omega
        dsimp only
        rw [e]
        clear e
        generalize cnm (k : Int) = W at *
        refine ayield_hand cxOk (p := fun _ => false) (q := fun _ => none) rfl rfl (by kernel_rfl) (by kernel_rfl) (by kernel_rfl) (by kernel_rfl) (by kernel_rfl) rfl rfl ?_
        dsimp only [putAll, lite, nextOf, Option.isNone, Bool.not_true, Bool.not_false, Bool.and_true, Bool.true_and, Bool.false_and, Bool.and_self, Bool.false_eq_true, if_false, if_true, ↓reduceIte, liteO, List.map, Option.map, List.zipIdx, Nat.reduceAdd]
        try simp only [List.getElem?_toArray, List.getElem?_cons_succ, List.getElem?_cons_zero, Option.bind_some]
        repeat' (first
          | refine aC_seq ?_
          | refine aC_reg rfl ?_
          | refine thenQ_normal ?_
          | refine aL_nil ?_
          | (apply aL_step; (· exact True.intro); (· simp (disch := first | omega | (simp only [go_sem]; omega)) only [go_sem, get_miss, seval, reduceCtorEq]); (· simp (disch := first | omega | (simp only [go_sem]; omega)) only [go_sem, get_miss, seval, reduceCtorEq] <;> with_reducible rfl); (· simp only [go_sem] <;> with_reducible rfl))
          | fail)
        refine ⟨rfl, rfl, ?_⟩
        repeat' (first
          | refine aC_seq ?_
          | refine aC_reg rfl ?_
          | refine aC_block ?_
          | refine aC_skip ?_
          | refine thenQ_normal ?_
          | refine blockQ_normal ?_
          | refine aL_nil ?_
          | (apply aL_step; (· exact True.intro); (· simp (disch := first | omega | (simp only [go_sem]; omega)) only [go_sem, get_miss, seval, reduceCtorEq, Int.sub_add_cancel, hne, decide_false, decide_true, not_true_eq_false, not_false_eq_true, eq_self_iff_true]); (· simp (disch := first | omega | (simp only [go_sem]; omega)) only [go_sem, get_miss, seval, reduceCtorEq, Int.sub_add_cancel, hne, decide_false, decide_true, not_true_eq_false, not_false_eq_true, eq_self_iff_true] <;> with_reducible rfl); (· simp only [go_sem] <;> with_reducible rfl))
          | (refine aC_condF ?_ ?_; (· simp (disch := first | omega | (simp only [go_sem]; omega)) only [go_sem, get_miss, seval, reduceCtorEq, Int.sub_add_cancel, hne, decide_false, decide_true, not_true_eq_false, not_false_eq_true, eq_self_iff_true]))
          | (apply aL_pure cxG (hr); (case hg => (simp (disch := first | omega | (simp only [go_sem]; omega)) only [go_sem, get_miss, seval, reduceCtorEq, Int.sub_add_cancel, hne, decide_false, decide_true, not_true_eq_false, not_false_eq_true, eq_self_iff_true])); (case hx => (simp (disch := first | omega | (simp only [go_sem]; omega)) only [go_sem, get_miss, seval, reduceCtorEq, Int.sub_add_cancel, hne, decide_false, decide_true, not_true_eq_false, not_false_eq_true, eq_self_iff_true] <;> with_reducible rfl)); (case ha => (simp (disch := first | omega | (simp only [go_sem]; omega)) only [go_sem, get_miss, seval, reduceCtorEq, Int.sub_add_cancel, hne, decide_false, decide_true, not_true_eq_false, not_false_eq_true, eq_self_iff_true] <;> with_reducible rfl)); (case he => (simp only [go_sem] <;> with_reducible rfl)); (case hcl => (simp)); (case hf => (simp only [go_sem] <;> with_reducible rfl)))
          | fail)
        all_goals try trivial
        all_goals exact ⟨rfl, rfl⟩
      · simp only [pendQ, List.cons_append, List.nil_append, List.length_cons, List.length_nil, Nat.reduceAdd, List.set_cons_succ, List.set_cons_zero, Int.cast_ofNat_Int, Int.reduceSub]
        repeat' (first
          | refine aC_seq ?_
          | refine aC_reg rfl ?_
          | refine aC_ret ?_
          | refine thenQ_normal ?_
          | refine blockQ_normal ?_
          | refine aL_nil ?_
          | (apply aL_step; (· exact True.intro); (· simp (disch := first | omega | (simp only [go_sem]; omega)) only [go_sem, get_miss, seval, reduceCtorEq]); (· simp (disch := first | omega | (simp only [go_sem]; omega)) only [go_sem, get_miss, seval, reduceCtorEq] <;> with_reducible rfl); (· simp only [go_sem] <;> with_reducible rfl))
          | fail)
        all_goals try (first | exact True.intro | exact not_false | omega)
        all_goals try (simp (disch := first | omega | (simp only [go_sem]; omega)) only [go_sem, get_miss, seval, reduceCtorEq] <;> first | exact True.intro | omega)
        all_goals try (simp (disch := first | omega | (simp only [go_sem]; omega)) only [go_sem, get_miss, seval, reduceCtorEq])
        all_goals try simp
  all_goals trivial
end
end Go.Am
