/- The document's Untext. -/
import Derived.Test.YtbkfnbnechpolaaGreatDoorC28
set_option linter.unusedVariables false
set_option linter.unusedSimpArgs false
namespace Go.Am
open Go Go.Proofs
set_option linter.unusedSimpArgs false
set_option linter.unusedVariables false
set_option maxHeartbeats 8000000
set_option maxRecDepth 100000
attribute [local irreducible] aC aL thenQ blockQ scopeQ ALoop AWp

theorem spA_len : ∀ (s cur : List UInt8), (spA cur s).length ≤ s.length + 1
  | [], cur => by simp [spA]
  | c :: r, cur => by
    simp only [spA]
    split
    · have := spA_len r []
      simp only [List.length_cons]
      omega
    · have := spA_len r (cur ++ [c])
      simp only [List.length_cons]
      omega

theorem ref_Untext (s : List UInt8) (hs : s.length ≤ 20000) (r : AVal) (hr : (∃ op d a b i : Int, IsIns s op d a b i ∧ r = .tup [.agg [.int .i64 op, .int .i64 d, .int .i64 a, .int .i64 b, .int .i64 i], .bool true]) ∨
    ((∀ op d a b i, ¬ IsIns s op d a b i) ∧ r = .tup [.agg [.int .i64 0, .int .i64 0, .int .i64 0, .int .i64 0, .int .i64 0], .bool false])) :
    APure cx 21 [.str s] r := by
  by_cases hlen : s.length ≤ 60
  case neg =>
    have hr' : r = .tup [.agg [.int .i64 0, .int .i64 0, .int .i64 0, .int .i64 0, .int .i64 0], .bool false] := by
      rcases hr with ⟨op, d, a, b, i, h, _⟩ | ⟨_, h⟩
      · exact absurd (ins_refs h).2 hlen
      · exact h
    rw [hr']
    clear hr hr'
    refine pure_fn cxOk Tryz.func21 (by kernel_rfl) (fun _ => false) (fun _ => none) (by kernel_rfl) (Nat.le_of_ble_eq_true (by kernel_rfl)) ?_
    dsimp only [LB, Tryz.f21, lite, nextOf, Option.isNone, Bool.not_true, Bool.not_false, Bool.and_true, Bool.true_and, Bool.false_and, Bool.and_self, Bool.false_eq_true, if_false, if_true, ↓reduceIte, liteO, List.map, Option.map, frame0, List.zipIdx, Nat.reduceAdd]
    try simp only [List.getElem?_toArray, List.getElem?_cons_succ, List.getElem?_cons_zero, Option.bind_some]
    repeat' (first
      | refine aC_seq ?_
      | refine aC_reg rfl ?_
      | refine aC_block ?_
      | refine aC_skip ?_
      | refine aC_loop ?_
      | refine aC_scope ?_
      | refine scopeQ_normal ?_
      | refine scopeQ_exit ?_
      | refine scopeQ_ret ?_
      | refine aC_exit ?_
      | refine aC_ret ?_
      | refine thenQ_normal ?_
      | refine blockQ_normal ?_
      | refine thenQ_ret ?_
      | refine blockQ_ret ?_
      | refine thenQ_exit ?_
      | refine blockQ_hit ?_
      | refine blockQ_miss rfl ?_
      | refine aL_nil ?_
      | (apply aL_step; (· exact True.intro); (· simp (disch := first | omega | (simp only [go_sem]; omega)) only [go_sem, get_miss, seval, reduceCtorEq]); (· simp (disch := first | omega | (simp only [go_sem]; omega)) only [go_sem, get_miss, seval, reduceCtorEq] <;> with_reducible rfl); (· simp only [go_sem] <;> with_reducible rfl))
      | (refine aL_skip ?_ (by simp only [go_sem] <;> with_reducible rfl) ?_; (· simp (disch := first | omega | (simp only [go_sem]; omega)) only [go_sem, get_miss, seval, reduceCtorEq]))
      | (apply aL_guardN; (· simp (disch := first | omega | (simp only [go_sem]; omega)) only [go_sem, get_miss, seval, reduceCtorEq] <;> with_reducible rfl); all_goals (intro h; first | (exfalso; omega) | (simp only [h, decide_true, decide_false, not_true, not_false_iff])))
      | (apply aL_guardP; (· simp (disch := first | omega | (simp only [go_sem]; omega)) only [go_sem, get_miss, seval, reduceCtorEq] <;> with_reducible rfl); all_goals (intro h; first | (exfalso; omega) | (simp only [h, decide_true, decide_false, not_true, not_false_iff])))
      | (refine aC_condT ?_ ?_; (· simp (disch := first | omega | (simp only [go_sem]; omega)) only [go_sem, get_miss, seval, reduceCtorEq]))
      | (refine aC_condF ?_ ?_; (· simp (disch := first | omega | (simp only [go_sem]; omega)) only [go_sem, get_miss, seval, reduceCtorEq]))
      | (refine aC_condP (by simp (disch := first | omega | (simp only [go_sem]; omega)) only [go_sem, get_miss, seval, reduceCtorEq] <;> with_reducible rfl) ?_ ?_ <;> (intro h; first | (exfalso; omega) | skip))
      | fail)
    all_goals try (first | exact True.intro | omega)
    all_goals try (simp (disch := first | omega | (simp only [go_sem]; omega)) only [go_sem, get_miss, seval, reduceCtorEq] <;> first | exact True.intro | omega)
    all_goals try (simp (disch := first | omega | (simp only [go_sem]; omega)) only [go_sem, get_miss, seval, reduceCtorEq])
    all_goals try simp
  case pos =>
  have hsp := ref_split s hs
  have hps : ∀ x ∈ spA [] s, x.length ≤ 20000 := fun x hx => by
    have := spA_sizes s [] x hx
    simp at this
    omega
  have hyes : ∀ op d a b i, IsIns s op d a b i → r = .tup [.agg [.int .i64 op, .int .i64 d, .int .i64 a, .int .i64 b, .int .i64 i], .bool true] := by
    intro op d a b i h
    rcases hr with ⟨op', d', a', b', i', h', e⟩ | ⟨h', _⟩
    · obtain ⟨rfl, rfl, rfl, rfl, rfl⟩ := ins_unique h h'
      exact e
    · exact absurd h (h' _ _ _ _ _)
  have hno : (∀ o : Nat, 1 ≤ o → o < 18 → ¬ IsIns s o (refK (spA [] s) o 4).2.1 (refK (spA [] s) o 4).2.2.1 (refK (spA [] s) o 4).2.2.2.1 (refK (spA [] s) o 4).2.2.2.2) → r = .tup [.agg [.int .i64 0, .int .i64 0, .int .i64 0, .int .i64 0, .int .i64 0], .bool false] := by
    intro hn
    rcases hr with ⟨op, d, a, b, i, h, _⟩ | ⟨_, e⟩
    · have ho := (may_range h.1).1
      have hq := (ins_refs h).1
      refine absurd h ?_
      have := hn op.toNat (by omega) (by omega)
      rw [show ((op.toNat : Nat) : Int) = op by omega, hq] at this
      exact this
    · exact e
  clear hr
  have hsl : (spA [] s).length ≤ s.length + 1 := spA_len s []
  generalize hpsd : spA [] s = ps at *
  have hml : maxLen = 9223372036854775807 := rfl
  refine pure_fn cxOk Tryz.func21 (by kernel_rfl) (fun _ => false) (fun _ => none) (by kernel_rfl) (Nat.le_of_ble_eq_true (by kernel_rfl)) ?_
  dsimp only [LB, Tryz.f21, lite, nextOf, Option.isNone, Bool.not_true, Bool.not_false, Bool.and_true, Bool.true_and, Bool.false_and, Bool.and_self, Bool.false_eq_true, if_false, if_true, ↓reduceIte, liteO, List.map, Option.map, frame0, List.zipIdx, Nat.reduceAdd]
  try simp only [List.getElem?_toArray, List.getElem?_cons_succ, List.getElem?_cons_zero, Option.bind_some]
  repeat' (first
    | refine aC_seq ?_
    | refine aC_reg rfl ?_
    | refine aC_block ?_
    | refine aC_skip ?_
    | refine aC_loop ?_
    | refine aC_scope ?_
    | refine scopeQ_normal ?_
    | refine scopeQ_exit ?_
    | refine scopeQ_ret ?_
    | refine aC_exit ?_
    | refine aC_ret ?_
    | refine thenQ_normal ?_
    | refine blockQ_normal ?_
    | refine thenQ_ret ?_
    | refine blockQ_ret ?_
    | refine thenQ_exit ?_
    | refine blockQ_hit ?_
    | refine blockQ_miss rfl ?_
    | refine aL_nil ?_
    | (apply aL_step; (· exact True.intro); (· simp (disch := first | omega | (simp only [go_sem]; omega)) only [go_sem, get_miss, seval, reduceCtorEq]); (· simp (disch := first | omega | (simp only [go_sem]; omega)) only [go_sem, get_miss, seval, reduceCtorEq] <;> with_reducible rfl); (· simp only [go_sem] <;> with_reducible rfl))
    | (refine aL_skip ?_ (by simp only [go_sem] <;> with_reducible rfl) ?_; (· simp (disch := first | omega | (simp only [go_sem]; omega)) only [go_sem, get_miss, seval, reduceCtorEq]))
    | (apply aL_guardN; (· simp (disch := first | omega | (simp only [go_sem]; omega)) only [go_sem, get_miss, seval, reduceCtorEq] <;> with_reducible rfl); all_goals (intro h; first | (exfalso; omega) | (simp only [h, decide_true, decide_false, not_true, not_false_iff])))
    | (apply aL_guardP; (· simp (disch := first | omega | (simp only [go_sem]; omega)) only [go_sem, get_miss, seval, reduceCtorEq] <;> with_reducible rfl); all_goals (intro h; first | (exfalso; omega) | (simp only [h, decide_true, decide_false, not_true, not_false_iff])))
    | (refine aC_condT ?_ ?_; (· simp (disch := first | omega | (simp only [go_sem]; omega)) only [go_sem, get_miss, seval, reduceCtorEq]))
    | (refine aC_condF ?_ ?_; (· simp (disch := first | omega | (simp only [go_sem]; omega)) only [go_sem, get_miss, seval, reduceCtorEq]))
    | (refine aC_condP (by simp (disch := first | omega | (simp only [go_sem]; omega)) only [go_sem, get_miss, seval, reduceCtorEq] <;> with_reducible rfl) ?_ ?_ <;> (intro h; first | (exfalso; omega) | skip))
    | (apply aL_pure cxG (hsp); (case hg => (simp (disch := first | omega | (simp only [go_sem]; omega)) only [go_sem, get_miss, seval, reduceCtorEq])); (case hx => (simp (disch := first | omega | (simp only [go_sem]; omega)) only [go_sem, get_miss, seval, reduceCtorEq] <;> with_reducible rfl)); (case ha => (simp (disch := first | omega | (simp only [go_sem]; omega)) only [go_sem, get_miss, seval, reduceCtorEq] <;> with_reducible rfl)); (case he => (simp only [go_sem] <;> with_reducible rfl)); (case hcl => (simp)); (case hf => (simp only [go_sem] <;> with_reducible rfl)))
    | fail)
  · refine loop_ruleD (cxOk.wp _ _) (cxG.wp _ _) (σ := Nat) (fun o => [(5, .int .i64 o), (4, .sl 1 false (ps.map .str) .any), (3, .bool false), (2, .ptr 0 0), (0, .str s)])
      (fun o => [.cells [.int .i64 0, .int .i64 0, .int .i64 0, .int .i64 0, .int .i64 0] 41]) (fun o => 18 - o) (fun o => (1 ≤ o ∧ o ≤ 18) ∧ ∀ k : Nat, 1 ≤ k → k < o → ¬ IsIns s k (refK ps k 4).2.1 (refK ps k 4).2.2.1 (refK ps k 4).2.2.2.1 (refK ps k 4).2.2.2.2)
      1 1 (GStep.refl _ _) ⟨⟨⟨Nat.le_refl _, by decide⟩, fun k h1 h2 => by omega⟩, Sub.of_all (by simp [Fr.get]), rfl⟩ (Nat.le_refl _) (fun o _ => ⟨rfl, by simp [belF, bel, bels, bels_str, belT]⟩) ?_
    rintro o ⟨⟨ho1, ho2⟩, hJ⟩
    by_cases hlt : o = 18
    · subst hlt
      rw [hno hJ]
      repeat' (first
        | refine aC_seq ?_
        | refine aC_reg rfl ?_
        | refine aC_block ?_
        | refine aC_skip ?_
        | refine aC_loop ?_
        | refine aC_scope ?_
        | refine scopeQ_normal ?_
        | refine scopeQ_exit ?_
        | refine scopeQ_ret ?_
        | refine aC_exit ?_
        | refine aC_ret ?_
        | refine thenQ_normal ?_
        | refine blockQ_normal ?_
        | refine thenQ_ret ?_
        | refine blockQ_ret ?_
        | refine thenQ_exit ?_
        | refine blockQ_hit ?_
        | refine blockQ_miss rfl ?_
        | refine aL_nil ?_
        | (apply aL_step; (· exact True.intro); (· simp (disch := first | omega | (simp only [go_sem]; omega)) only [go_sem, get_miss, seval, reduceCtorEq]); (· simp (disch := first | omega | (simp only [go_sem]; omega)) only [go_sem, get_miss, seval, reduceCtorEq] <;> with_reducible rfl); (· simp only [go_sem] <;> with_reducible rfl))
        | (refine aL_skip ?_ (by simp only [go_sem] <;> with_reducible rfl) ?_; (· simp (disch := first | omega | (simp only [go_sem]; omega)) only [go_sem, get_miss, seval, reduceCtorEq]))
        | (apply aL_guardN; (· simp (disch := first | omega | (simp only [go_sem]; omega)) only [go_sem, get_miss, seval, reduceCtorEq] <;> with_reducible rfl); all_goals (intro h; first | (exfalso; omega) | (simp only [h, decide_true, decide_false, not_true, not_false_iff])))
        | (apply aL_guardP; (· simp (disch := first | omega | (simp only [go_sem]; omega)) only [go_sem, get_miss, seval, reduceCtorEq] <;> with_reducible rfl); all_goals (intro h; first | (exfalso; omega) | (simp only [h, decide_true, decide_false, not_true, not_false_iff])))
        | (refine aC_condT ?_ ?_; (· simp (disch := first | omega | (simp only [go_sem]; omega)) only [go_sem, get_miss, seval, reduceCtorEq]))
        | (refine aC_condF ?_ ?_; (· simp (disch := first | omega | (simp only [go_sem]; omega)) only [go_sem, get_miss, seval, reduceCtorEq]))
        | (refine aC_condP (by simp (disch := first | omega | (simp only [go_sem]; omega)) only [go_sem, get_miss, seval, reduceCtorEq] <;> with_reducible rfl) ?_ ?_ <;> (intro h; first | (exfalso; omega) | skip))
        | fail)
      all_goals try (first | exact True.intro | omega)
      all_goals try (simp (disch := first | omega | (simp only [go_sem]; omega)) only [go_sem, get_miss, seval, reduceCtorEq] <;> first | exact True.intro | omega)
      all_goals try (simp (disch := first | omega | (simp only [go_sem]; omega)) only [go_sem, get_miss, seval, reduceCtorEq])
      all_goals try simp
    · have ho17 : o ≤ 17 := by omega
      have hof := ref_of (o : Int)
      generalize hwd : (frm (o : Int)).1 = w at hof
      have hbl : ∀ k : Nat, k < 4 → ([.bool (decide (Has (o : Int) 100)), .bool (decide (Has (o : Int) 97)), .bool (decide (Has (o : Int) 98)), .bool (decide (Has (o : Int) 105))] : List AVal).getD k .any = .bool (decide (flagR o k)) := by
        intro k hk
        match k, hk with
        | 0, _ => rfl
        | 1, _ => rfl
        | 2, _ => rfl
        | 3, _ => rfl
      generalize hB0 : decide (Has (o : Int) 100) = b0 at hof hbl
      generalize hB1 : decide (Has (o : Int) 97) = b1 at hof hbl
      generalize hB2 : decide (Has (o : Int) 98) = b2 at hof hbl
      generalize hB3 : decide (Has (o : Int) 105) = b3 at hof hbl
      repeat' (first
        | refine aC_seq ?_
        | refine aC_reg rfl ?_
        | refine aC_block ?_
        | refine aC_skip ?_
        | refine aC_loop ?_
        | refine aC_scope ?_
        | refine scopeQ_normal ?_
        | refine scopeQ_exit ?_
        | refine scopeQ_ret ?_
        | refine aC_exit ?_
        | refine aC_ret ?_
        | refine thenQ_normal ?_
        | refine blockQ_normal ?_
        | refine thenQ_ret ?_
        | refine blockQ_ret ?_
        | refine thenQ_exit ?_
        | refine blockQ_hit ?_
        | refine blockQ_miss rfl ?_
        | refine aL_nil ?_
        | (apply aL_step; (· exact True.intro); (· simp (disch := first | omega | (simp only [go_sem]; omega)) only [go_sem, get_miss, seval, reduceCtorEq]); (· simp (disch := first | omega | (simp only [go_sem]; omega)) only [go_sem, get_miss, seval, reduceCtorEq] <;> with_reducible rfl); (· simp only [go_sem] <;> with_reducible rfl))
        | (refine aL_skip ?_ (by simp only [go_sem] <;> with_reducible rfl) ?_; (· simp (disch := first | omega | (simp only [go_sem]; omega)) only [go_sem, get_miss, seval, reduceCtorEq]))
        | (apply aL_guardN; (· simp (disch := first | omega | (simp only [go_sem]; omega)) only [go_sem, get_miss, seval, reduceCtorEq] <;> with_reducible rfl); all_goals (intro h; first | (exfalso; omega) | (simp only [h, decide_true, decide_false, not_true, not_false_iff])))
        | (apply aL_guardP; (· simp (disch := first | omega | (simp only [go_sem]; omega)) only [go_sem, get_miss, seval, reduceCtorEq] <;> with_reducible rfl); all_goals (intro h; first | (exfalso; omega) | (simp only [h, decide_true, decide_false, not_true, not_false_iff])))
        | (refine aC_condT ?_ ?_; (· simp (disch := first | omega | (simp only [go_sem]; omega)) only [go_sem, get_miss, seval, reduceCtorEq]))
        | (refine aC_condF ?_ ?_; (· simp (disch := first | omega | (simp only [go_sem]; omega)) only [go_sem, get_miss, seval, reduceCtorEq]))
        | (refine aC_condP (by simp (disch := first | omega | (simp only [go_sem]; omega)) only [go_sem, get_miss, seval, reduceCtorEq] <;> with_reducible rfl) ?_ ?_ <;> (intro h; first | (exfalso; omega) | skip))
        | (apply aL_pure cxG (hof); (case hg => (simp (disch := first | omega | (simp only [go_sem]; omega)) only [go_sem, get_miss, seval, reduceCtorEq])); (case hx => (simp (disch := first | omega | (simp only [go_sem]; omega)) only [go_sem, get_miss, seval, reduceCtorEq] <;> with_reducible rfl)); (case ha => (simp (disch := first | omega | (simp only [go_sem]; omega)) only [go_sem, get_miss, seval, reduceCtorEq] <;> with_reducible rfl)); (case he => (simp only [go_sem] <;> with_reducible rfl)); (case hcl => (simp)); (case hf => (simp only [go_sem] <;> with_reducible rfl)))
        | fail)
      all_goals try trivial
      · refine loop_rule (cxOk.wp _ _) (σ := Nat) (fun k => [(10, .int .i64 k), (8, .int .i64 (refK ps o k).1), (9, .sl 1 false [.bool b0, .bool b1, .bool b2, .bool b3] .full), (7, .ptr 2 0), (5, .int .i64 o), (4, .sl 1 false (ps.map .str) .any), (3, .bool false), (2, .ptr 0 0), (0, .str s)])
          (fun k => [.cells [.int .i64 0, .int .i64 0, .int .i64 0, .int .i64 0, .int .i64 0] 41, .cells [.bool b0, .bool b1, .bool b2, .bool b3, .str w] 92, .cells [.int .i64 o, .int .i64 (refK ps o k).2.1, .int .i64 (refK ps o k).2.2.1, .int .i64 (refK ps o k).2.2.2.1, .int .i64 (refK ps o k).2.2.2.2] 41])
          (fun k => 4 - k) (fun k => k ≤ 4) 0 (GStep.refl _ _) ⟨Nat.zero_le _, Sub.of_all (by simp [Fr.get, refK]), rfl⟩ ?_
        intro k hk4
        by_cases hk : k = 4
        · subst hk
          obtain ⟨at_, q1, q2, q3, q4, hq⟩ : ∃ at_ q1 q2 q3 q4, refK ps o 4 = (at_, q1, q2, q3, q4) := ⟨_, _, _, _, _, rfl⟩
          have hnext : ¬ IsIns s o q1 q2 q3 q4 → ∀ k : Nat, 1 ≤ k → k < o + 1 → ¬ IsIns s k (refK ps k 4).2.1 (refK ps k 4).2.2.1 (refK ps k 4).2.2.2.1 (refK ps k 4).2.2.2.2 := by
            intro hn k h1 h2
            by_cases hko : k = o
            · subst hko; rw [hq]; exact hn
            · exact hJ k h1 (by omega)
          have hmay := ref_may (o : Int) q1 q2 q3 q4
          clear hno hbl hof
          by_cases hM : MayF o q1 q2 q3 q4 (frm o).1 (frm o).2
          · have htx := ref_Text (may_range hM).1 (may_range hM).2.1 (may_range hM).2.2.1 (may_range hM).2.2.2.1 (may_range hM).2.2.2.2
            rw [decide_eq_true hM] at hmay
            by_cases hT : txt o q1 q2 q3 q4 = s
            · rw [hyes _ _ _ _ _ ⟨hM, hT⟩]
              rw [hT] at htx
              clear hnext hyes hM hT hJ
              simp only [hq]
              repeat' (first
                | refine aC_seq ?_
                | refine aC_reg rfl ?_
                | refine aC_block ?_
                | refine aC_skip ?_
                | refine aC_loop ?_
                | refine aC_scope ?_
                | refine scopeQ_normal ?_
                | refine scopeQ_exit ?_
                | refine scopeQ_ret ?_
                | refine aC_exit ?_
                | refine aC_ret ?_
                | refine thenQ_normal ?_
                | refine blockQ_normal ?_
                | refine thenQ_ret ?_
                | refine blockQ_ret ?_
                | refine thenQ_exit ?_
                | refine blockQ_hit ?_
                | refine blockQ_miss rfl ?_
                | refine aL_nil ?_
                | (apply aL_step; (· exact True.intro); (· simp (disch := first | omega | (simp only [go_sem]; omega)) only [go_sem, get_miss, seval, reduceCtorEq, beq_self_eq_true]); (· simp (disch := first | omega | (simp only [go_sem]; omega)) only [go_sem, get_miss, seval, reduceCtorEq, beq_self_eq_true] <;> with_reducible rfl); (· simp only [go_sem] <;> with_reducible rfl))
                | (refine aL_skip ?_ (by simp only [go_sem] <;> with_reducible rfl) ?_; (· simp (disch := first | omega | (simp only [go_sem]; omega)) only [go_sem, get_miss, seval, reduceCtorEq, beq_self_eq_true]))
                | (apply aL_guardN; (· simp (disch := first | omega | (simp only [go_sem]; omega)) only [go_sem, get_miss, seval, reduceCtorEq, beq_self_eq_true] <;> with_reducible rfl); all_goals (intro h; first | (exfalso; omega) | (simp only [h, decide_true, decide_false, not_true, not_false_iff])))
                | (apply aL_guardP; (· simp (disch := first | omega | (simp only [go_sem]; omega)) only [go_sem, get_miss, seval, reduceCtorEq, beq_self_eq_true] <;> with_reducible rfl); all_goals (intro h; first | (exfalso; omega) | (simp only [h, decide_true, decide_false, not_true, not_false_iff])))
                | (refine aC_condT ?_ ?_; (· simp (disch := first | omega | (simp only [go_sem]; omega)) only [go_sem, get_miss, seval, reduceCtorEq, beq_self_eq_true]))
                | (refine aC_condF ?_ ?_; (· simp (disch := first | omega | (simp only [go_sem]; omega)) only [go_sem, get_miss, seval, reduceCtorEq, beq_self_eq_true]))
                | (refine aC_condP (by simp (disch := first | omega | (simp only [go_sem]; omega)) only [go_sem, get_miss, seval, reduceCtorEq, beq_self_eq_true] <;> with_reducible rfl) ?_ ?_ <;> (intro h; first | (exfalso; omega) | skip))
                | (apply aL_pure cxG (hmay); (case hg => (simp (disch := first | omega | (simp only [go_sem]; omega)) only [go_sem, get_miss, seval, reduceCtorEq, beq_self_eq_true])); (case hx => (simp (disch := first | omega | (simp only [go_sem]; omega)) only [go_sem, get_miss, seval, reduceCtorEq, beq_self_eq_true] <;> with_reducible rfl)); (case ha => (simp (disch := first | omega | (simp only [go_sem]; omega)) only [go_sem, get_miss, seval, reduceCtorEq, beq_self_eq_true] <;> with_reducible rfl)); (case he => (simp only [go_sem] <;> with_reducible rfl)); (case hcl => (simp)); (case hf => (simp only [go_sem] <;> with_reducible rfl)))
                | (apply aL_pure cxG (htx); (case hg => (simp (disch := first | omega | (simp only [go_sem]; omega)) only [go_sem, get_miss, seval, reduceCtorEq, beq_self_eq_true])); (case hx => (simp (disch := first | omega | (simp only [go_sem]; omega)) only [go_sem, get_miss, seval, reduceCtorEq, beq_self_eq_true] <;> with_reducible rfl)); (case ha => (simp (disch := first | omega | (simp only [go_sem]; omega)) only [go_sem, get_miss, seval, reduceCtorEq, beq_self_eq_true] <;> with_reducible rfl)); (case he => (simp only [go_sem] <;> with_reducible rfl)); (case hcl => (simp)); (case hf => (simp only [go_sem] <;> with_reducible rfl)))
                | fail)
              all_goals try (first | exact True.intro | omega)
              all_goals try (simp (disch := first | omega | (simp only [go_sem]; omega)) only [go_sem, get_miss, seval, reduceCtorEq] <;> first | exact True.intro | omega)
              all_goals (clear hmay htx)
              all_goals try (simp (disch := first | omega | (simp only [go_sem]; omega)) only [go_sem, get_miss, seval, reduceCtorEq])
              all_goals try simp
            · have hn := hnext (fun h => hT h.2)
              have hb : (txt o q1 q2 q3 q4 == s) = false := by simp [hT]
              clear hnext hyes hM
              generalize txt o q1 q2 q3 q4 = X at *
              simp only [hq]
              repeat' (first
                | refine aC_seq ?_
                | refine aC_reg rfl ?_
                | refine aC_block ?_
                | refine aC_skip ?_
                | refine aC_loop ?_
                | refine aC_scope ?_
                | refine scopeQ_normal ?_
                | refine scopeQ_exit ?_
                | refine scopeQ_ret ?_
                | refine aC_exit ?_
                | refine aC_ret ?_
                | refine thenQ_normal ?_
                | refine blockQ_normal ?_
                | refine thenQ_ret ?_
                | refine blockQ_ret ?_
                | refine thenQ_exit ?_
                | refine blockQ_hit ?_
                | refine blockQ_miss rfl ?_
                | refine aL_nil ?_
                | (apply aL_step; (· exact True.intro); (· simp (disch := first | omega | (simp only [go_sem]; omega)) only [go_sem, get_miss, seval, reduceCtorEq, hb]); (· simp (disch := first | omega | (simp only [go_sem]; omega)) only [go_sem, get_miss, seval, reduceCtorEq, hb] <;> with_reducible rfl); (· simp only [go_sem] <;> with_reducible rfl))
                | (refine aL_skip ?_ (by simp only [go_sem] <;> with_reducible rfl) ?_; (· simp (disch := first | omega | (simp only [go_sem]; omega)) only [go_sem, get_miss, seval, reduceCtorEq, hb]))
                | (apply aL_guardN; (· simp (disch := first | omega | (simp only [go_sem]; omega)) only [go_sem, get_miss, seval, reduceCtorEq, hb] <;> with_reducible rfl); all_goals (intro h; first | (exfalso; omega) | (simp only [h, decide_true, decide_false, not_true, not_false_iff])))
                | (apply aL_guardP; (· simp (disch := first | omega | (simp only [go_sem]; omega)) only [go_sem, get_miss, seval, reduceCtorEq, hb] <;> with_reducible rfl); all_goals (intro h; first | (exfalso; omega) | (simp only [h, decide_true, decide_false, not_true, not_false_iff])))
                | (refine aC_condT ?_ ?_; (· simp (disch := first | omega | (simp only [go_sem]; omega)) only [go_sem, get_miss, seval, reduceCtorEq, hb]))
                | (refine aC_condF ?_ ?_; (· simp (disch := first | omega | (simp only [go_sem]; omega)) only [go_sem, get_miss, seval, reduceCtorEq, hb]))
                | (refine aC_condP (by simp (disch := first | omega | (simp only [go_sem]; omega)) only [go_sem, get_miss, seval, reduceCtorEq, hb] <;> with_reducible rfl) ?_ ?_ <;> (intro h; first | (exfalso; omega) | skip))
                | (apply aL_pure cxG (hmay); (case hg => (simp (disch := first | omega | (simp only [go_sem]; omega)) only [go_sem, get_miss, seval, reduceCtorEq, hb])); (case hx => (simp (disch := first | omega | (simp only [go_sem]; omega)) only [go_sem, get_miss, seval, reduceCtorEq, hb] <;> with_reducible rfl)); (case ha => (simp (disch := first | omega | (simp only [go_sem]; omega)) only [go_sem, get_miss, seval, reduceCtorEq, hb] <;> with_reducible rfl)); (case he => (simp only [go_sem] <;> with_reducible rfl)); (case hcl => (simp)); (case hf => (simp only [go_sem] <;> with_reducible rfl)))
                | (apply aL_pure cxG (htx); (case hg => (simp (disch := first | omega | (simp only [go_sem]; omega)) only [go_sem, get_miss, seval, reduceCtorEq, hb])); (case hx => (simp (disch := first | omega | (simp only [go_sem]; omega)) only [go_sem, get_miss, seval, reduceCtorEq, hb] <;> with_reducible rfl)); (case ha => (simp (disch := first | omega | (simp only [go_sem]; omega)) only [go_sem, get_miss, seval, reduceCtorEq, hb] <;> with_reducible rfl)); (case he => (simp only [go_sem] <;> with_reducible rfl)); (case hcl => (simp)); (case hf => (simp only [go_sem] <;> with_reducible rfl)))
                | fail)
              all_goals try (first | exact True.intro | omega)
              all_goals try (simp (disch := first | omega | (simp only [go_sem]; omega)) only [go_sem, get_miss, seval, reduceCtorEq] <;> first | exact True.intro | omega)
              all_goals first | exact ⟨o + 1, ⟨⟨by omega, by omega⟩, hn⟩, Sub.of_all (by simp [Fr.get]), rfl, by omega⟩ | trivial
          · rw [decide_eq_false hM] at hmay
            have hn := hnext (fun h => hM h.1)
            clear hnext hyes hM
            simp only [hq]
            repeat' (first
              | refine aC_seq ?_
              | refine aC_reg rfl ?_
              | refine aC_block ?_
              | refine aC_skip ?_
              | refine aC_loop ?_
              | refine aC_scope ?_
              | refine scopeQ_normal ?_
              | refine scopeQ_exit ?_
              | refine scopeQ_ret ?_
              | refine aC_exit ?_
              | refine aC_ret ?_
              | refine thenQ_normal ?_
              | refine blockQ_normal ?_
              | refine thenQ_ret ?_
              | refine blockQ_ret ?_
              | refine thenQ_exit ?_
              | refine blockQ_hit ?_
              | refine blockQ_miss rfl ?_
              | refine aL_nil ?_
              | (apply aL_step; (· exact True.intro); (· simp (disch := first | omega | (simp only [go_sem]; omega)) only [go_sem, get_miss, seval, reduceCtorEq]); (· simp (disch := first | omega | (simp only [go_sem]; omega)) only [go_sem, get_miss, seval, reduceCtorEq] <;> with_reducible rfl); (· simp only [go_sem] <;> with_reducible rfl))
              | (refine aL_skip ?_ (by simp only [go_sem] <;> with_reducible rfl) ?_; (· simp (disch := first | omega | (simp only [go_sem]; omega)) only [go_sem, get_miss, seval, reduceCtorEq]))
              | (apply aL_guardN; (· simp (disch := first | omega | (simp only [go_sem]; omega)) only [go_sem, get_miss, seval, reduceCtorEq] <;> with_reducible rfl); all_goals (intro h; first | (exfalso; omega) | (simp only [h, decide_true, decide_false, not_true, not_false_iff])))
              | (apply aL_guardP; (· simp (disch := first | omega | (simp only [go_sem]; omega)) only [go_sem, get_miss, seval, reduceCtorEq] <;> with_reducible rfl); all_goals (intro h; first | (exfalso; omega) | (simp only [h, decide_true, decide_false, not_true, not_false_iff])))
              | (refine aC_condT ?_ ?_; (· simp (disch := first | omega | (simp only [go_sem]; omega)) only [go_sem, get_miss, seval, reduceCtorEq]))
              | (refine aC_condF ?_ ?_; (· simp (disch := first | omega | (simp only [go_sem]; omega)) only [go_sem, get_miss, seval, reduceCtorEq]))
              | (refine aC_condP (by simp (disch := first | omega | (simp only [go_sem]; omega)) only [go_sem, get_miss, seval, reduceCtorEq] <;> with_reducible rfl) ?_ ?_ <;> (intro h; first | (exfalso; omega) | skip))
              | (apply aL_pure cxG (hmay); (case hg => (simp (disch := first | omega | (simp only [go_sem]; omega)) only [go_sem, get_miss, seval, reduceCtorEq])); (case hx => (simp (disch := first | omega | (simp only [go_sem]; omega)) only [go_sem, get_miss, seval, reduceCtorEq] <;> with_reducible rfl)); (case ha => (simp (disch := first | omega | (simp only [go_sem]; omega)) only [go_sem, get_miss, seval, reduceCtorEq] <;> with_reducible rfl)); (case he => (simp only [go_sem] <;> with_reducible rfl)); (case hcl => (simp)); (case hf => (simp only [go_sem] <;> with_reducible rfl)))
              | fail)
            all_goals try (first | exact True.intro | omega)
            all_goals try (simp (disch := first | omega | (simp only [go_sem]; omega)) only [go_sem, get_miss, seval, reduceCtorEq] <;> first | exact True.intro | omega)
            all_goals first | exact ⟨o + 1, ⟨⟨by omega, by omega⟩, hn⟩, Sub.of_all (by simp [Fr.get]), rfl, by omega⟩ | trivial
        · have hk4 : k < 4 := by omega
          have hb := hbl k hk4
          have hatl := refK_at ps o k
          obtain ⟨at_, q1, q2, q3, q4, hq⟩ : ∃ at_ q1 q2 q3 q4, refK ps o k = (at_, q1, q2, q3, q4) := ⟨_, _, _, _, _, rfl⟩
          have ek : refK ps o (k + 1) = if flagR o k ∧ at_ < ps.length then (at_ + 1, setQ k (wordR k (ps.getD at_ [])) (q1, q2, q3, q4)) else (at_, q1, q2, q3, q4) := by
            simp only [refK, hq]
          rw [hq] at hatl
          simp only at hatl
          simp only [hq]
          clear hno hyes hJ hbl hof
          by_cases hf : flagR o k
          · rw [decide_eq_true hf] at hb
            by_cases hat : at_ < ps.length
            · rw [if_pos ⟨hf, hat⟩] at ek
              have ep : (ps.map AVal.str).getD at_ .any = .str (ps.getD at_ []) := by
                simp [List.getD, hat]
              have hxl := hps (ps.getD at_ []) (by simp [List.getD, hat])
              have hpl : ps.length < 1000000 := by
                have := hsl
                omega
              generalize ps.getD at_ [] = x at *
              have hn1 := ref_number x hxl
              have hn2 := ref_number (x.drop 1) (by simp; omega)
              have hlm : (ps.map AVal.str).length = ps.length := List.length_map _
              rcases (show k = 0 ∨ k = 1 ∨ k = 2 ∨ k = 3 by omega) with hk0 | hk0 | hk0 | hk0
              all_goals
              by_cases hxn : 0 < x.length
              all_goals
              repeat' (first
                | refine aC_seq ?_
                | refine aC_reg rfl ?_
                | refine aC_block ?_
                | refine aC_skip ?_
                | refine aC_loop ?_
                | refine aC_scope ?_
                | refine scopeQ_normal ?_
                | refine scopeQ_exit ?_
                | refine scopeQ_ret ?_
                | refine aC_exit ?_
                | refine aC_ret ?_
                | refine thenQ_normal ?_
                | refine blockQ_normal ?_
                | refine thenQ_ret ?_
                | refine blockQ_ret ?_
                | refine thenQ_exit ?_
                | refine blockQ_hit ?_
                | refine blockQ_miss rfl ?_
                | refine aL_nil ?_
                | (apply aL_step; (· exact True.intro); (· simp (disch := first | omega | (simp only [go_sem]; omega)) only [go_sem, get_miss, seval, reduceCtorEq, hb, ep]); (· simp (disch := first | omega | (simp only [go_sem]; omega)) only [go_sem, get_miss, seval, reduceCtorEq, hb, ep] <;> with_reducible rfl); (· simp only [go_sem] <;> with_reducible rfl))
                | (refine aL_skip ?_ (by simp only [go_sem] <;> with_reducible rfl) ?_; (· simp (disch := first | omega | (simp only [go_sem]; omega)) only [go_sem, get_miss, seval, reduceCtorEq, hb, ep]))
                | (apply aL_guardN; (· simp (disch := first | omega | (simp only [go_sem]; omega)) only [go_sem, get_miss, seval, reduceCtorEq, hb, ep] <;> with_reducible rfl); all_goals (intro h; first | (exfalso; omega) | (simp only [h, decide_true, decide_false, not_true, not_false_iff])))
                | (apply aL_guardP; (· simp (disch := first | omega | (simp only [go_sem]; omega)) only [go_sem, get_miss, seval, reduceCtorEq, hb, ep] <;> with_reducible rfl); all_goals (intro h; first | (exfalso; omega) | (simp only [h, decide_true, decide_false, not_true, not_false_iff])))
                | (refine aC_condT ?_ ?_; (· simp (disch := first | omega | (simp only [go_sem]; omega)) only [go_sem, get_miss, seval, reduceCtorEq, hb, ep]))
                | (refine aC_condF ?_ ?_; (· simp (disch := first | omega | (simp only [go_sem]; omega)) only [go_sem, get_miss, seval, reduceCtorEq, hb, ep]))
                | (refine aC_condP (by simp (disch := first | omega | (simp only [go_sem]; omega)) only [go_sem, get_miss, seval, reduceCtorEq, hb, ep] <;> with_reducible rfl) ?_ ?_ <;> (intro h; first | (exfalso; omega) | skip))
                | (apply aL_pure cxG (hn1); (case hg => (simp (disch := first | omega | (simp only [go_sem]; omega)) only [go_sem, get_miss, seval, reduceCtorEq, hb, ep])); (case hx => (simp (disch := first | omega | (simp only [go_sem]; omega)) only [go_sem, get_miss, seval, reduceCtorEq, hb, ep] <;> with_reducible rfl)); (case ha => (simp (disch := first | omega | (simp only [go_sem]; omega)) only [go_sem, get_miss, seval, reduceCtorEq, hb, ep] <;> with_reducible rfl)); (case he => (simp only [go_sem] <;> with_reducible rfl)); (case hcl => (simp)); (case hf => (simp only [go_sem] <;> with_reducible rfl)))
                | (apply aL_pure cxG (hn2); (case hg => (simp (disch := first | omega | (simp only [go_sem]; omega)) only [go_sem, get_miss, seval, reduceCtorEq, hb, ep])); (case hx => (simp (disch := first | omega | (simp only [go_sem]; omega)) only [go_sem, get_miss, seval, reduceCtorEq, hb, ep] <;> with_reducible rfl)); (case ha => (simp (disch := first | omega | (simp only [go_sem]; omega)) only [go_sem, get_miss, seval, reduceCtorEq, hb, ep] <;> with_reducible rfl)); (case he => (simp only [go_sem] <;> with_reducible rfl)); (case hcl => (simp)); (case hf => (simp only [go_sem] <;> with_reducible rfl)))
                | fail)
              all_goals try (first | exact True.intro | omega)
              all_goals try (simp (disch := first | omega | (simp only [go_sem]; omega)) only [go_sem, get_miss, seval, reduceCtorEq] <;> first | exact True.intro | omega)
              all_goals first | trivial | (simp (disch := first | omega | (simp only [go_sem]; omega)) only [go_sem, get_miss, seval, reduceCtorEq, hb, ep]; done) | exact ⟨k + 1, by omega, Sub.of_all (by simp [Fr.get, ek]), by rw [ek]; simp [setQ, wordR, hxn, hk0], by omega⟩
            · rw [if_neg (fun h => hat h.2)] at ek
              repeat' (first
                | refine aC_seq ?_
                | refine aC_reg rfl ?_
                | refine aC_block ?_
                | refine aC_skip ?_
                | refine aC_loop ?_
                | refine aC_scope ?_
                | refine scopeQ_normal ?_
                | refine scopeQ_exit ?_
                | refine scopeQ_ret ?_
                | refine aC_exit ?_
                | refine aC_ret ?_
                | refine thenQ_normal ?_
                | refine blockQ_normal ?_
                | refine thenQ_ret ?_
                | refine blockQ_ret ?_
                | refine thenQ_exit ?_
                | refine blockQ_hit ?_
                | refine blockQ_miss rfl ?_
                | refine aL_nil ?_
                | (apply aL_step; (· exact True.intro); (· simp (disch := first | omega | (simp only [go_sem]; omega)) only [go_sem, get_miss, seval, reduceCtorEq, hb]); (· simp (disch := first | omega | (simp only [go_sem]; omega)) only [go_sem, get_miss, seval, reduceCtorEq, hb] <;> with_reducible rfl); (· simp only [go_sem] <;> with_reducible rfl))
                | (refine aL_skip ?_ (by simp only [go_sem] <;> with_reducible rfl) ?_; (· simp (disch := first | omega | (simp only [go_sem]; omega)) only [go_sem, get_miss, seval, reduceCtorEq, hb]))
                | (apply aL_guardN; (· simp (disch := first | omega | (simp only [go_sem]; omega)) only [go_sem, get_miss, seval, reduceCtorEq, hb] <;> with_reducible rfl); all_goals (intro h; first | (exfalso; omega) | (simp only [h, decide_true, decide_false, not_true, not_false_iff])))
                | (apply aL_guardP; (· simp (disch := first | omega | (simp only [go_sem]; omega)) only [go_sem, get_miss, seval, reduceCtorEq, hb] <;> with_reducible rfl); all_goals (intro h; first | (exfalso; omega) | (simp only [h, decide_true, decide_false, not_true, not_false_iff])))
                | (refine aC_condT ?_ ?_; (· simp (disch := first | omega | (simp only [go_sem]; omega)) only [go_sem, get_miss, seval, reduceCtorEq, hb]))
                | (refine aC_condF ?_ ?_; (· simp (disch := first | omega | (simp only [go_sem]; omega)) only [go_sem, get_miss, seval, reduceCtorEq, hb]))
                | (refine aC_condP (by simp (disch := first | omega | (simp only [go_sem]; omega)) only [go_sem, get_miss, seval, reduceCtorEq, hb] <;> with_reducible rfl) ?_ ?_ <;> (intro h; first | (exfalso; omega) | skip))
                | fail)
              all_goals try (first | exact True.intro | omega)
              all_goals try (simp (disch := first | omega | (simp only [go_sem]; omega)) only [go_sem, get_miss, seval, reduceCtorEq] <;> first | exact True.intro | omega)
              all_goals first | (simp (disch := first | omega | (simp only [go_sem]; omega)) only [go_sem, get_miss, seval, reduceCtorEq, hb]; done) | exact ⟨k + 1, by omega, Sub.of_all (by simp [Fr.get, ek]), by simp [ek], by omega⟩ | trivial
          · rw [if_neg (fun h => hf h.1)] at ek
            rw [decide_eq_false hf] at hb
            repeat' (first
              | refine aC_seq ?_
              | refine aC_reg rfl ?_
              | refine aC_block ?_
              | refine aC_skip ?_
              | refine aC_loop ?_
              | refine aC_scope ?_
              | refine scopeQ_normal ?_
              | refine scopeQ_exit ?_
              | refine scopeQ_ret ?_
              | refine aC_exit ?_
              | refine aC_ret ?_
              | refine thenQ_normal ?_
              | refine blockQ_normal ?_
              | refine thenQ_ret ?_
              | refine blockQ_ret ?_
              | refine thenQ_exit ?_
              | refine blockQ_hit ?_
              | refine blockQ_miss rfl ?_
              | refine aL_nil ?_
              | (apply aL_step; (· exact True.intro); (· simp (disch := first | omega | (simp only [go_sem]; omega)) only [go_sem, get_miss, seval, reduceCtorEq, hb]); (· simp (disch := first | omega | (simp only [go_sem]; omega)) only [go_sem, get_miss, seval, reduceCtorEq, hb] <;> with_reducible rfl); (· simp only [go_sem] <;> with_reducible rfl))
              | (refine aL_skip ?_ (by simp only [go_sem] <;> with_reducible rfl) ?_; (· simp (disch := first | omega | (simp only [go_sem]; omega)) only [go_sem, get_miss, seval, reduceCtorEq, hb]))
              | (apply aL_guardN; (· simp (disch := first | omega | (simp only [go_sem]; omega)) only [go_sem, get_miss, seval, reduceCtorEq, hb] <;> with_reducible rfl); all_goals (intro h; first | (exfalso; omega) | (simp only [h, decide_true, decide_false, not_true, not_false_iff])))
              | (apply aL_guardP; (· simp (disch := first | omega | (simp only [go_sem]; omega)) only [go_sem, get_miss, seval, reduceCtorEq, hb] <;> with_reducible rfl); all_goals (intro h; first | (exfalso; omega) | (simp only [h, decide_true, decide_false, not_true, not_false_iff])))
              | (refine aC_condT ?_ ?_; (· simp (disch := first | omega | (simp only [go_sem]; omega)) only [go_sem, get_miss, seval, reduceCtorEq, hb]))
              | (refine aC_condF ?_ ?_; (· simp (disch := first | omega | (simp only [go_sem]; omega)) only [go_sem, get_miss, seval, reduceCtorEq, hb]))
              | (refine aC_condP (by simp (disch := first | omega | (simp only [go_sem]; omega)) only [go_sem, get_miss, seval, reduceCtorEq, hb] <;> with_reducible rfl) ?_ ?_ <;> (intro h; first | (exfalso; omega) | skip))
              | fail)
            all_goals try (first | exact True.intro | omega)
            all_goals try (simp (disch := first | omega | (simp only [go_sem]; omega)) only [go_sem, get_miss, seval, reduceCtorEq] <;> first | exact True.intro | omega)
            all_goals first | (simp (disch := first | omega | (simp only [go_sem]; omega)) only [go_sem, get_miss, seval, reduceCtorEq, hb]; done) | exact ⟨k + 1, by omega, Sub.of_all (by simp [Fr.get, ek]), by simp [ek], by omega⟩ | trivial
      all_goals first | trivial | simp
  all_goals trivial
end Go.Am
