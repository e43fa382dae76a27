/- call.Make, call.Op at a name of the table; the law CallLines. -/
import Derived.Test.YtikookfljnilpaaDoorL20
import Derived.Test.YtikookfljnilpaaDoorL13
import Derived.Test.YtikookfljnilpaaDoorL30
set_option linter.unusedVariables false
set_option linter.unusedSimpArgs false
namespace Go.Am
open Go Go.Proofs
set_option linter.unusedSimpArgs false
set_option linter.unusedVariables false
set_option maxHeartbeats 8000000
set_option maxRecDepth 100000
section
variable {C : Cx}
end
section
attribute [local irreducible] aC aL thenQ blockQ scopeQ ALoop AWp

/-- Arguments, and zeros up to six. -/
def pad (a : List Nat) : List Nat := a ++ [0, 0, 0, 0, 0, 0].drop a.length
theorem wl_copy6 {a : List Nat} (h : a.length ≤ 6) : putCells [.int .u64 0, .int .u64 0, .int .u64 0, .int .u64 0, .int .u64 0, .int .u64 0] 0 (wl a) = wl (pad a) := by
  show putCells (wl [0, 0, 0, 0, 0, 0]) 0 (wl a) = _
  rw [putCells_eq _ _ _ (by rw [length_wl, length_wl]; simp; omega), length_wl]
  simp [pad, wl]
theorem pad_len {a : List Nat} (h : a.length ≤ 6) : (pad a).length = 6 := by simp [pad]; omega
theorem call_Make (op : Int) (nl : Bool) (a : List Nat) (hl : a.length ≤ 60) : APure cx 18 [.int .i64 op, .sl 1 nl (wl a) .any]
    (if (1 ≤ op ∧ op ≤ 21) ∧ a.length = car op then .tup [.agg (.int .i64 op :: wl (pad a)), .int .i64 0] else .tup [.agg (.int .i64 0 :: wl [0, 0, 0, 0, 0, 0]), .int .i64 2]) := by
  have ha := call_Arity op
  have hc := car_le op
  have hcop := fun h : a.length ≤ 6 => wl_copy6 h
  have hpl := fun h : a.length ≤ 6 => pad_len h
  by_cases h : 1 ≤ op ∧ op ≤ 21
  case neg =>
    rw [if_neg h] at ha
    rw [if_neg (fun k => h k.1)]
    clear h hcop hpl
    refine pure_fn cxOk Tryd.func18 (by kernel_rfl) (fun _ => false) (fun _ => none) (by kernel_rfl) (Nat.le_of_ble_eq_true (by kernel_rfl)) ?_
    dsimp only [LB, Tryd.f18, lite, nextOf, Option.isNone, Bool.not_true, Bool.not_false, Bool.and_true, Bool.true_and, Bool.false_and, Bool.and_self, Bool.false_eq_true, if_false, if_true, ↓reduceIte, liteO, List.map, Option.map, frame0, List.zipIdx, Nat.reduceAdd]
    try simp only [List.getElem?_toArray, List.getElem?_cons_succ, List.getElem?_cons_zero, Option.bind_some]
    repeat' (first
      | refine aC_seq ?_
      | refine aC_reg rfl ?_
      | refine aC_ret ?_
      | refine thenQ_normal ?_
      | refine thenQ_ret ?_
      | refine aL_nil ?_
      | (apply aL_step; (· exact True.intro); (· simp (disch := first | omega | (simp only [go_sem]; omega)) only [go_sem, get_miss, seval, reduceCtorEq, nil_wl, cons_wl, List.replicate]); (· simp (disch := first | omega | (simp only [go_sem]; omega)) only [go_sem, get_miss, seval, reduceCtorEq, nil_wl, cons_wl, List.replicate] <;> with_reducible rfl); (· simp only [go_sem] <;> with_reducible rfl))
      | (refine aL_skip ?_ (by simp only [go_sem] <;> with_reducible rfl) ?_; (· simp (disch := first | omega | (simp only [go_sem]; omega)) only [go_sem, get_miss, seval, reduceCtorEq, nil_wl, cons_wl, List.replicate]))
      | (refine aC_condT ?_ ?_; (· simp (disch := first | omega | (simp only [go_sem]; omega)) only [go_sem, get_miss, seval, reduceCtorEq, nil_wl, cons_wl, List.replicate]))
      | (apply aL_pure cxG (ha); (case hg => (simp (disch := first | omega | (simp only [go_sem]; omega)) only [go_sem, get_miss, seval, reduceCtorEq, nil_wl, cons_wl, List.replicate])); (case hx => (simp (disch := first | omega | (simp only [go_sem]; omega)) only [go_sem, get_miss, seval, reduceCtorEq, nil_wl, cons_wl, List.replicate] <;> with_reducible rfl)); (case ha => (simp (disch := first | omega | (simp only [go_sem]; omega)) only [go_sem, get_miss, seval, reduceCtorEq, nil_wl, cons_wl, List.replicate] <;> with_reducible rfl)); (case he => (simp only [go_sem] <;> with_reducible rfl)); (case hcl => (simp)); (case hf => (simp only [go_sem] <;> with_reducible rfl)))
      | fail)
    all_goals try (first | exact True.intro | exact not_false | omega)
    all_goals try (simp (disch := first | omega | (simp only [go_sem]; omega)) only [go_sem, get_miss, seval, reduceCtorEq] <;> first | exact True.intro | omega)
    all_goals try (simp (disch := first | omega | (simp only [go_sem]; omega)) only [go_sem, get_miss, seval, reduceCtorEq])
    all_goals try simp [wl]
  case pos =>
    rw [if_pos h] at ha
    by_cases h2 : a.length = car op
    case neg =>
      rw [if_neg (fun k => h2 k.2)]
      clear hcop hpl
      generalize car op = K at *
      refine pure_fn cxOk Tryd.func18 (by kernel_rfl) (fun _ => false) (fun _ => none) (by kernel_rfl) (Nat.le_of_ble_eq_true (by kernel_rfl)) ?_
      dsimp only [LB, Tryd.f18, lite, nextOf, Option.isNone, Bool.not_true, Bool.not_false, Bool.and_true, Bool.true_and, Bool.false_and, Bool.and_self, Bool.false_eq_true, if_false, if_true, ↓reduceIte, liteO, List.map, Option.map, frame0, List.zipIdx, Nat.reduceAdd]
      try simp only [List.getElem?_toArray, List.getElem?_cons_succ, List.getElem?_cons_zero, Option.bind_some]
      repeat' (first
        | refine aC_seq ?_
        | refine aC_reg rfl ?_
        | refine aC_ret ?_
        | refine thenQ_normal ?_
        | refine thenQ_ret ?_
        | refine aL_nil ?_
        | (apply aL_step; (· exact True.intro); (· simp (disch := first | omega | (simp only [go_sem]; omega)) only [go_sem, get_miss, seval, reduceCtorEq, nil_wl, cons_wl, List.replicate]); (· simp (disch := first | omega | (simp only [go_sem]; omega)) only [go_sem, get_miss, seval, reduceCtorEq, nil_wl, cons_wl, List.replicate] <;> with_reducible rfl); (· simp only [go_sem] <;> with_reducible rfl))
        | (apply aL_guardN; (· simp (disch := first | omega | (simp only [go_sem]; omega)) only [go_sem, get_miss, seval, reduceCtorEq, nil_wl, cons_wl, List.replicate] <;> with_reducible rfl); all_goals (intro h; first | (exfalso; omega) | (simp only [h, decide_true, decide_false, not_true, not_false_iff])))
        | (refine aC_condP (by simp (disch := first | omega | (simp only [go_sem]; omega)) only [go_sem, get_miss, seval, reduceCtorEq, nil_wl, cons_wl, List.replicate] <;> with_reducible rfl) ?_ ?_ <;> (intro h; first | (exfalso; omega) | skip))
        | (apply aL_pure cxG (ha); (case hg => (simp (disch := first | omega | (simp only [go_sem]; omega)) only [go_sem, get_miss, seval, reduceCtorEq, nil_wl, cons_wl, List.replicate])); (case hx => (simp (disch := first | omega | (simp only [go_sem]; omega)) only [go_sem, get_miss, seval, reduceCtorEq, nil_wl, cons_wl, List.replicate] <;> with_reducible rfl)); (case ha => (simp (disch := first | omega | (simp only [go_sem]; omega)) only [go_sem, get_miss, seval, reduceCtorEq, nil_wl, cons_wl, List.replicate] <;> with_reducible rfl)); (case he => (simp only [go_sem] <;> with_reducible rfl)); (case hcl => (simp)); (case hf => (simp only [go_sem] <;> with_reducible rfl)))
        | fail)
      all_goals try (first | exact True.intro | exact not_false | omega)
      all_goals try (simp (disch := first | omega | (simp only [go_sem]; omega)) only [go_sem, get_miss, seval, reduceCtorEq] <;> first | exact True.intro | omega)
      all_goals try (simp (disch := first | omega | (simp only [go_sem]; omega)) only [go_sem, get_miss, seval, reduceCtorEq])
      all_goals try simp [wl]
      all_goals omega
    case pos =>
      rw [if_pos ⟨h, h2⟩]
      have hcop := hcop (by omega)
      have hpl := hpl (by omega)
      generalize pad a = Z at *
      rw [← h2] at ha
      refine pure_fn cxOk Tryd.func18 (by kernel_rfl) (fun _ => false) (fun _ => none) (by kernel_rfl) (Nat.le_of_ble_eq_true (by kernel_rfl)) ?_
      dsimp only [LB, Tryd.f18, lite, nextOf, Option.isNone, Bool.not_true, Bool.not_false, Bool.and_true, Bool.true_and, Bool.false_and, Bool.and_self, Bool.false_eq_true, if_false, if_true, ↓reduceIte, liteO, List.map, Option.map, frame0, List.zipIdx, Nat.reduceAdd]
      try simp only [List.getElem?_toArray, List.getElem?_cons_succ, List.getElem?_cons_zero, Option.bind_some]
      repeat' (first
        | refine aC_seq ?_
        | refine aC_reg rfl ?_
        | refine aC_skip ?_
        | refine aC_ret ?_
        | refine thenQ_normal ?_
        | refine aL_nil ?_
        | (apply aL_step; (· exact True.intro); (· simp (disch := first | omega | (simp only [go_sem]; omega)) only [go_sem, get_miss, seval, reduceCtorEq, hcop, List.replicate]); (· simp (disch := first | omega | (simp only [go_sem]; omega)) only [go_sem, get_miss, seval, reduceCtorEq, hcop, List.replicate] <;> with_reducible rfl); (· simp only [go_sem] <;> with_reducible rfl))
        | (apply aL_guardN; (· simp (disch := first | omega | (simp only [go_sem]; omega)) only [go_sem, get_miss, seval, reduceCtorEq, hcop, List.replicate] <;> with_reducible rfl); all_goals (intro h; first | (exfalso; omega) | (simp only [h, decide_true, decide_false, not_true, not_false_iff])))
        | (refine aC_condF ?_ ?_; (· simp (disch := first | omega | (simp only [go_sem]; omega)) only [go_sem, get_miss, seval, reduceCtorEq, hcop, List.replicate]))
        | (apply aL_pure cxG (ha); (case hg => (simp (disch := first | omega | (simp only [go_sem]; omega)) only [go_sem, get_miss, seval, reduceCtorEq, hcop, List.replicate])); (case hx => (simp (disch := first | omega | (simp only [go_sem]; omega)) only [go_sem, get_miss, seval, reduceCtorEq, hcop, List.replicate] <;> with_reducible rfl)); (case ha => (simp (disch := first | omega | (simp only [go_sem]; omega)) only [go_sem, get_miss, seval, reduceCtorEq, hcop, List.replicate] <;> with_reducible rfl)); (case he => (simp only [go_sem] <;> with_reducible rfl)); (case hcl => (simp)); (case hf => (simp only [go_sem] <;> with_reducible rfl)))
        | fail)
      all_goals try (first | exact True.intro | exact not_false | omega)
      all_goals try (simp (disch := first | omega | (simp only [go_sem]; omega)) only [go_sem, get_miss, seval, reduceCtorEq] <;> first | exact True.intro | omega)
      all_goals try (simp (disch := first | omega | (simp only [go_sem]; omega)) only [go_sem, get_miss, seval, reduceCtorEq])
      all_goals try simp
      all_goals omega

end
end Go.Am
