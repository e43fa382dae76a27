/- The document's cut, Op; its numbers. -/
import Derived.Test.YtikookfljnilpaaDoorL09
section
set_option linter.unusedVariables false
set_option linter.unusedSimpArgs false
namespace Go.Am
open Go Go.Proofs
set_option linter.unusedSimpArgs false
set_option linter.unusedVariables false
set_option maxHeartbeats 8000000
set_option maxRecDepth 100000
section
attribute [local irreducible] aC aL thenQ blockQ scopeQ ALoop AWp

/-! ### The document's -/
end
end Go.Am
end
section
set_option linter.unusedVariables false
set_option linter.unusedSimpArgs false
namespace Go.Am
open Go Go.Proofs
set_option linter.unusedSimpArgs false
set_option linter.unusedVariables false
set_option maxHeartbeats 8000000
set_option maxRecDepth 100000
section
attribute [local irreducible] aC aL thenQ blockQ scopeQ ALoop AWp

theorem ref_Op (n : List UInt8) (r : Int) (hr : ((1 ≤ r ∧ r ≤ 21) ∧ cnm r = n) ∨ (r = 0 ∧ ∀ op : Int, 1 ≤ op ∧ op ≤ 21 → cnm op ≠ n)) : APure cx 16 [.str n] (.int .i64 r) := by
  have hn := ref_names
  have hl := names_len
  have hg : ∀ k : Nat, 1 ≤ k → k ≤ 21 → (AVal.str [] :: OPS.map fun p => AVal.str p.1).getD k .any = .str (cnm k) := fun k h1 h2 => by
    have := names_get (op := (k : Int)) ⟨by omega, by omega⟩
    rw [Int.toNat_natCast] at this
    exact this
  have hyes : ∀ k : Nat, 1 ≤ k → k ≤ 21 → cnm k = n → r = (k : Int) := fun k h1 h2 h3 => by
    rcases hr with ⟨g1, g2⟩ | ⟨_, g⟩
    · exact cnm_inj g1 ⟨by omega, by omega⟩ (g2.trans h3.symm)
    · exact absurd h3 (g k ⟨by omega, by omega⟩)
  have hno : (∀ k : Nat, 1 ≤ k → k < 22 → cnm k ≠ n) → r = 0 := fun h => by
    rcases hr with ⟨g1, g2⟩ | ⟨g, _⟩
    · exact absurd g2 (by
        have := h r.toNat (by omega) (by omega)
        rwa [Int.toNat_of_nonneg (by omega)] at this)
    · exact g
  clear hr
  generalize (AVal.str [] :: OPS.map fun p => AVal.str p.1) = L at *
  refine pure_fn cxOk Tryd.func16 (by kernel_rfl) (fun _ => false) (fun _ => none) (by kernel_rfl) (Nat.le_of_ble_eq_true (by kernel_rfl)) ?_
  dsimp only [LB, Tryd.f16, lite, nextOf, Option.isNone, Bool.not_true, Bool.not_false, Bool.and_true, Bool.true_and, Bool.false_and, Bool.and_self, Bool.false_eq_true, if_false, if_true, ↓reduceIte, liteO, List.map, Option.map, frame0, List.zipIdx, Nat.reduceAdd]
  try simp only [List.getElem?_toArray, List.getElem?_cons_succ, List.getElem?_cons_zero, Option.bind_some]
  repeat' (first
    | refine aC_seq ?_
    | refine aC_reg rfl ?_
    | refine aC_block ?_
    | refine aC_loop ?_
    | refine thenQ_normal ?_
    | refine aL_nil ?_
    | (apply aL_step; (· exact True.intro); (· simp (disch := first | omega | (simp only [go_sem]; omega)) only [go_sem, get_miss, seval, reduceCtorEq]); (· simp (disch := first | omega | (simp only [go_sem]; omega)) only [go_sem, get_miss, seval, reduceCtorEq] <;> with_reducible rfl); (· simp only [go_sem] <;> with_reducible rfl))
    | (apply aL_pure cxG (hn); (case hg => (simp (disch := first | omega | (simp only [go_sem]; omega)) only [go_sem, get_miss, seval, reduceCtorEq])); (case hx => (simp (disch := first | omega | (simp only [go_sem]; omega)) only [go_sem, get_miss, seval, reduceCtorEq] <;> with_reducible rfl)); (case ha => (simp (disch := first | omega | (simp only [go_sem]; omega)) only [go_sem, get_miss, seval, reduceCtorEq] <;> with_reducible rfl)); (case he => (simp only [go_sem] <;> with_reducible rfl)); (case hcl => (simp)); (case hf => (simp only [go_sem] <;> with_reducible rfl)))
    | fail)
  · clear hn
    refine loop_rule (cxOk.wp _ _) (σ := Nat) (fun k => [(4, .int .i64 k), (3, .sl 1 false L .any), (0, .str n)])
      (fun _ => []) (fun k => 22 - k) (fun k => 1 ≤ k ∧ k ≤ 22 ∧ ∀ j : Nat, 1 ≤ j → j < k → cnm j ≠ n) 1 (GStep.refl _ _) ⟨⟨Nat.le_refl _, by decide, fun _ _ h => by omega⟩, Sub.of_all (by simp [Fr.get, frame0]), rfl⟩ ?_
    rintro k ⟨h1, h2, hJ⟩
    by_cases hlt : k < 22
    · have hgk := hg k h1 (by omega)
      by_cases he : cnm (k : Int) = n
      · rw [hyes k h1 (by omega) he]
        have hb : (cnm (k : Int) == n) = true := by simp [he]
        clear hyes hno hg hJ
        generalize cnm (k : Int) = W at *
        repeat' (first
          | refine aC_seq ?_
          | refine aC_reg rfl ?_
          | refine aC_block ?_
          | refine aC_skip ?_
          | refine aC_ret ?_
          | refine thenQ_normal ?_
          | refine thenQ_ret ?_
          | refine blockQ_ret ?_
          | refine aL_nil ?_
          | (apply aL_step; (· exact True.intro); (· simp (disch := first | omega | (simp only [go_sem]; omega)) only [go_sem, get_miss, seval, reduceCtorEq, hgk, hl, hb, he, eq_self_iff_true, decide_true]); (· simp (disch := first | omega | (simp only [go_sem]; omega)) only [go_sem, get_miss, seval, reduceCtorEq, hgk, hl, hb, he, eq_self_iff_true, decide_true] <;> with_reducible rfl); (· simp only [go_sem] <;> with_reducible rfl))
          | (refine aC_condT ?_ ?_; (· simp (disch := first | omega | (simp only [go_sem]; omega)) only [go_sem, get_miss, seval, reduceCtorEq, hgk, hl, hb, he, eq_self_iff_true, decide_true]))
          | (refine aC_condP (by simp (disch := first | omega | (simp only [go_sem]; omega)) only [go_sem, get_miss, seval, reduceCtorEq, hgk, hl, hb, he, eq_self_iff_true, decide_true] <;> with_reducible rfl) ?_ ?_ <;> (intro h; first | (exfalso; omega) | skip))
          | fail)
        all_goals try (first | exact True.intro | exact not_false | omega)
        all_goals try (simp (disch := first | omega | (simp only [go_sem]; omega)) only [go_sem, get_miss, seval, reduceCtorEq] <;> first | exact True.intro | omega)
        all_goals try (simp (disch := first | omega | (simp only [go_sem]; omega)) only [go_sem, get_miss, seval, reduceCtorEq])
        all_goals try simp
      · have hb : (cnm (k : Int) == n) = false := by simp [he]
        have hJ' : ∀ j : Nat, 1 ≤ j → j < k + 1 → cnm j ≠ n := fun j g1 g2 => by
          by_cases e : j = k
          · rw [e]; exact he
          · exact hJ j g1 (by omega)
        clear hyes hno hg hJ
        generalize cnm (k : Int) = W at *
        repeat' (first
          | refine aC_seq ?_
          | refine aC_reg rfl ?_
          | refine aC_block ?_
          | refine aC_skip ?_
          | refine thenQ_normal ?_
          | refine blockQ_normal ?_
          | refine aL_nil ?_
          | (apply aL_step; (· exact True.intro); (· simp (disch := first | omega | (simp only [go_sem]; omega)) only [go_sem, get_miss, seval, reduceCtorEq, hgk, hl, hb, he, decide_false]); (· simp (disch := first | omega | (simp only [go_sem]; omega)) only [go_sem, get_miss, seval, reduceCtorEq, hgk, hl, hb, he, decide_false] <;> with_reducible rfl); (· simp only [go_sem] <;> with_reducible rfl))
          | (refine aC_condF ?_ ?_; (· simp (disch := first | omega | (simp only [go_sem]; omega)) only [go_sem, get_miss, seval, reduceCtorEq, hgk, hl, hb, he, decide_false]))
          | (refine aC_condP (by simp (disch := first | omega | (simp only [go_sem]; omega)) only [go_sem, get_miss, seval, reduceCtorEq, hgk, hl, hb, he, decide_false] <;> with_reducible rfl) ?_ ?_ <;> (intro h; first | (exfalso; omega) | skip))
          | fail)
        all_goals try (first | exact True.intro | exact not_false | omega)
        all_goals try (simp (disch := first | omega | (simp only [go_sem]; omega)) only [go_sem, get_miss, seval, reduceCtorEq] <;> first | exact True.intro | omega)
        all_goals exact ⟨k + 1, ⟨by omega, by omega, hJ'⟩, Sub.of_all (by simp [Fr.get]), rfl, by omega⟩
    · have hk' : k = 22 := by omega
      subst hk'
      rw [hno hJ]
      clear hyes hno hg hJ
      repeat' (first
        | refine aC_seq ?_
        | refine aC_reg rfl ?_
        | refine aC_exit ?_
        | refine aC_ret ?_
        | refine thenQ_normal ?_
        | refine thenQ_exit ?_
        | refine blockQ_hit ?_
        | refine aL_nil ?_
        | (apply aL_step; (· exact True.intro); (· simp (disch := first | omega | (simp only [go_sem]; omega)) only [go_sem, get_miss, seval, reduceCtorEq, hl]); (· simp (disch := first | omega | (simp only [go_sem]; omega)) only [go_sem, get_miss, seval, reduceCtorEq, hl] <;> with_reducible rfl); (· simp only [go_sem] <;> with_reducible rfl))
        | (refine aC_condF ?_ ?_; (· simp (disch := first | omega | (simp only [go_sem]; omega)) only [go_sem, get_miss, seval, reduceCtorEq, hl]))
        | fail)
      all_goals try (first | exact True.intro | exact not_false | omega)
      all_goals try (simp (disch := first | omega | (simp only [go_sem]; omega)) only [go_sem, get_miss, seval, reduceCtorEq] <;> first | exact True.intro | omega)
      all_goals try (simp (disch := first | omega | (simp only [go_sem]; omega)) only [go_sem, get_miss, seval, reduceCtorEq])
      all_goals try simp
  all_goals trivial

/-- A number of a text's bytes, as the document reckons it. -/
def rst (a : Nat) (c : UInt8) : Nat := (a * 10 + c.toNat + 18446744073709551568) % 18446744073709551616
section
attribute [local irreducible] rst
end
theorem set_set (l : List Nat) (k v w : Nat) : (l.set k v).set k w = l.set k w := by simp
end
end Go.Am
end
