/- The document's Lines, Program, Listing. -/
import Derived.Test.YtbkfnbnechpolaaGreatDoorC29
import Derived.Test.YtbkfnbnechpolaaGreatDoorC33
import Derived.Test.YtbkfnbnechpolaaGreatDoorC23
set_option linter.unusedVariables false
set_option linter.unusedSimpArgs false
namespace Go.Am
open Go Go.Proofs
set_option linter.unusedSimpArgs false
set_option linter.unusedVariables false
set_option maxHeartbeats 8000000
set_option maxRecDepth 100000
section
attribute [local irreducible] aC aL thenQ blockQ scopeQ ALoop AWp

/-- A text's lines, as the document cuts: the last one perhaps without its end. -/
def lnA : List UInt8 → List UInt8 → List (List UInt8)
  | cur, [] => if cur = [] then [] else [cur]
  | cur, c :: r => if c = 10 then cur :: lnA [] r else lnA (cur ++ [c]) r
theorem lnA_miss : ∀ (x cur : List UInt8), 10 ∉ x → lnA cur x = if cur ++ x = [] then [] else [cur ++ x]
  | [], cur, _ => by simp [lnA]
  | c :: x, cur, h => by
    have hc : ¬ c = 10 := fun e => h (by simp [e])
    simp only [lnA, if_neg hc]
    rw [lnA_miss x _ fun k => h (List.mem_cons_of_mem _ k)]
    simp
theorem lnA_hit : ∀ (x cur y : List UInt8), 10 ∉ x → lnA cur (x ++ 10 :: y) = (cur ++ x) :: lnA [] y
  | [], cur, y, _ => by simp [lnA]
  | c :: x, cur, y, h => by
    have hc : ¬ c = 10 := fun e => h (by simp [e])
    rw [List.cons_append]
    simp only [lnA, if_neg hc]
    rw [lnA_hit x _ y fun k => h (List.mem_cons_of_mem _ k)]
    simp

theorem trimS_hit (x y : List UInt8) (hy : y ≠ []) : trimS (x ++ 10 :: y) = x ++ 10 :: trimS y := by
  have hl : 1 ≤ y.length := by
    cases y with
    | nil => exact absurd rfl hy
    | cons => simp
  have e0 : (x ++ 10 :: y).length - 1 = x.length + (1 + (y.length - 1)) := by simp; omega
  have e1 : (x ++ 10 :: y).drop ((x ++ 10 :: y).length - 1) = y.drop (y.length - 1) := by
    rw [e0, List.drop_append, List.drop_eq_nil_of_le (by omega), List.nil_append, show x.length + (1 + (y.length - 1)) - x.length = (y.length - 1) + 1 by omega, List.drop_succ_cons]
  have e2 : (x ++ 10 :: y).take ((x ++ 10 :: y).length - 1) = x ++ 10 :: y.take (y.length - 1) := by
    rw [e0, List.take_append, List.take_of_length_le (by omega), show x.length + (1 + (y.length - 1)) - x.length = (y.length - 1) + 1 by omega, List.take_succ_cons]
  unfold trimS
  rw [e1, e2]
  split <;> rfl

/-- The program's lines are the document's. -/
theorem linesG_lnA : ∀ (n : Nat) (s : List UInt8), s.length ≤ n → linesG s = lnA [] s := by
  intro n
  induction n with
  | zero =>
    intro s hs
    have : s = [] := List.eq_nil_of_length_eq_zero (by omega)
    subst this
    rfl
  | succ n ih =>
    intro s hs
    by_cases h0 : s = []
    · subst h0; rfl
    unfold linesG
    rw [if_neg h0]
    by_cases h10 : (10 : UInt8) ∈ s
    · obtain ⟨x, y, rfl, hx⟩ := List.eq_append_cons_of_mem h10
      rw [lnA_hit x [] y hx, List.nil_append]
      by_cases hy : y = []
      · subst hy
        have : trimS (x ++ [10]) = x := by
          have e : (x ++ [(10 : UInt8)]).length - 1 = x.length := by simp
          unfold trimS
          rw [e, List.drop_left, if_pos rfl, List.take_left]
        rw [this, parts_miss 10 x hx]
        rfl
      · rw [trimS_hit x y hy, parts_hit 10 x _ hx]
        have := ih y (by simp at hs; omega)
        unfold linesG at this
        rw [if_neg hy] at this
        rw [this]
    · have : trimS s = s := by
        unfold trimS
        rw [if_neg (fun e => h10 (by
          have : (10 : UInt8) ∈ s.drop (s.length - 1) := by rw [e]; simp
          exact List.mem_of_mem_drop this))]
      rw [this, parts_miss 10 s h10, lnA_miss s [] h10, List.nil_append, if_neg h0]

theorem ref_Lines (s : List UInt8) (hs : s.length ≤ 20000) : APure cx 20 [.str s] (.sl 1 (lnA [] s).isEmpty ((lnA [] s).map .str) .any) := by
  refine pure_fn cxOk Tryz.func20 (by kernel_rfl) (fun _ => false) (fun _ => none) (by kernel_rfl) (Nat.le_of_ble_eq_true (by kernel_rfl)) ?_
  dsimp only [LB, Tryz.f20, lite, nextOf, Option.isNone, Bool.not_true, Bool.not_false, Bool.and_true, Bool.true_and, Bool.false_and, Bool.and_self, Bool.false_eq_true, if_false, if_true, ↓reduceIte, liteO, List.map, Option.map, frame0, List.zipIdx, Nat.reduceAdd]
  try simp only [List.getElem?_toArray, List.getElem?_cons_succ, List.getElem?_cons_zero, Option.bind_some]
  repeat' (first
    | refine aC_seq ?_
    | refine aC_reg rfl ?_
    | refine aC_block ?_
    | refine aC_skip ?_
    | refine aC_loop ?_
    | refine aC_scope ?_
    | refine scopeQ_normal ?_
    | refine scopeQ_exit ?_
    | refine scopeQ_ret ?_
    | refine aC_exit ?_
    | refine aC_ret ?_
    | refine thenQ_normal ?_
    | refine blockQ_normal ?_
    | refine thenQ_ret ?_
    | refine blockQ_ret ?_
    | refine thenQ_exit ?_
    | refine blockQ_hit ?_
    | refine blockQ_miss rfl ?_
    | refine aL_nil ?_
    | (apply aL_step; (· exact True.intro); (· simp (disch := first | omega | (simp only [go_sem]; omega)) only [go_sem, get_miss, seval, reduceCtorEq]); (· simp (disch := first | omega | (simp only [go_sem]; omega)) only [go_sem, get_miss, seval, reduceCtorEq] <;> with_reducible rfl); (· simp only [go_sem] <;> with_reducible rfl))
    | (refine aL_skip ?_ (by simp only [go_sem] <;> with_reducible rfl) ?_; (· simp (disch := first | omega | (simp only [go_sem]; omega)) only [go_sem, get_miss, seval, reduceCtorEq]))
    | (apply aL_guardN; (· simp (disch := first | omega | (simp only [go_sem]; omega)) only [go_sem, get_miss, seval, reduceCtorEq] <;> with_reducible rfl); all_goals (intro h; first | (exfalso; omega) | (simp only [h, decide_true, decide_false, not_true, not_false_iff])))
    | (apply aL_guardP; (· simp (disch := first | omega | (simp only [go_sem]; omega)) only [go_sem, get_miss, seval, reduceCtorEq] <;> with_reducible rfl); all_goals (intro h; first | (exfalso; omega) | (simp only [h, decide_true, decide_false, not_true, not_false_iff])))
    | (refine aC_condT ?_ ?_; (· simp (disch := first | omega | (simp only [go_sem]; omega)) only [go_sem, get_miss, seval, reduceCtorEq]))
    | (refine aC_condF ?_ ?_; (· simp (disch := first | omega | (simp only [go_sem]; omega)) only [go_sem, get_miss, seval, reduceCtorEq]))
    | (refine aC_condP (by simp (disch := first | omega | (simp only [go_sem]; omega)) only [go_sem, get_miss, seval, reduceCtorEq] <;> with_reducible rfl) ?_ ?_ <;> (intro h; first | (exfalso; omega) | skip))
    | fail)
  · refine loop_rule (cxOk.wp _ _) (σ := Nat × Nat × List (List UInt8)) (fun x => [(3, .sl 1 x.2.2.isEmpty (x.2.2.map .str) (.grow 0)), (4, .int .i64 x.2.1), (5, .int .i64 x.1), (0, .str s)])
      (fun x => [.grow x.2.2.length 1 9]) (fun x => s.length - x.1) (fun x => x.2.2.length ≤ x.1 ∧ x.1 ≤ s.length ∧ x.2.1 ≤ x.1 ∧ lnA [] s = x.2.2 ++ lnA ((s.take x.1).drop x.2.1) (s.drop x.1))
      (0, 0, []) (GStep.nil 3 1 9 rfl) ⟨⟨Nat.le_refl _, Nat.zero_le _, Nat.le_refl _, by simp⟩, Sub.of_all (by simp [Fr.get, frame0]), by simp⟩ ?_
    rintro ⟨i, at_, L⟩ ⟨hLi, h1, h2, h3⟩
    simp only at hLi h1 h2 h3 ⊢
    by_cases hlt : i < s.length
    · have hd : s.drop i = s[i] :: s.drop (i + 1) := List.drop_eq_getElem_cons hlt
      have hg : s.getD i 0 = s[i] := by simp [List.getD, hlt]
      have ht : (s.take (i + 1)).drop at_ = (s.take i).drop at_ ++ [s[i]] := by
        rw [List.take_succ_eq_append_getElem hlt, List.drop_append_of_le_length (by simp; omega)]
      rw [hd] at h3
      simp only [lnA] at h3
      by_cases h10 : s[i] = 10
      · rw [if_pos h10] at h3
        repeat' (first
          | refine aC_seq ?_
          | refine aC_reg rfl ?_
          | refine aC_block ?_
          | refine aC_skip ?_
          | refine aC_loop ?_
          | refine aC_scope ?_
          | refine scopeQ_normal ?_
          | refine scopeQ_exit ?_
          | refine scopeQ_ret ?_
          | refine aC_exit ?_
          | refine aC_ret ?_
          | refine thenQ_normal ?_
          | refine blockQ_normal ?_
          | refine thenQ_ret ?_
          | refine blockQ_ret ?_
          | refine thenQ_exit ?_
          | refine blockQ_hit ?_
          | refine blockQ_miss rfl ?_
          | refine aL_nil ?_
          | (apply aL_step; (· exact True.intro); (· simp (disch := first | omega | (simp only [go_sem]; omega)) only [go_sem, get_miss, seval, reduceCtorEq, hg, h10, UInt8.reduceToNat]); (· simp (disch := first | omega | (simp only [go_sem]; omega)) only [go_sem, get_miss, seval, reduceCtorEq, hg, h10, UInt8.reduceToNat] <;> with_reducible rfl); (· simp only [go_sem] <;> with_reducible rfl))
          | (refine aL_skip ?_ (by simp only [go_sem] <;> with_reducible rfl) ?_; (· simp (disch := first | omega | (simp only [go_sem]; omega)) only [go_sem, get_miss, seval, reduceCtorEq, hg, h10, UInt8.reduceToNat]))
          | (apply aL_guardN; (· simp (disch := first | omega | (simp only [go_sem]; omega)) only [go_sem, get_miss, seval, reduceCtorEq, hg, h10, UInt8.reduceToNat] <;> with_reducible rfl); all_goals (intro h; first | (exfalso; omega) | (simp only [h, decide_true, decide_false, not_true, not_false_iff])))
          | (apply aL_guardP; (· simp (disch := first | omega | (simp only [go_sem]; omega)) only [go_sem, get_miss, seval, reduceCtorEq, hg, h10, UInt8.reduceToNat] <;> with_reducible rfl); all_goals (intro h; first | (exfalso; omega) | (simp only [h, decide_true, decide_false, not_true, not_false_iff])))
          | (refine aC_condT ?_ ?_; (· simp (disch := first | omega | (simp only [go_sem]; omega)) only [go_sem, get_miss, seval, reduceCtorEq, hg, h10, UInt8.reduceToNat]))
          | (refine aC_condF ?_ ?_; (· simp (disch := first | omega | (simp only [go_sem]; omega)) only [go_sem, get_miss, seval, reduceCtorEq, hg, h10, UInt8.reduceToNat]))
          | (refine aC_condP (by simp (disch := first | omega | (simp only [go_sem]; omega)) only [go_sem, get_miss, seval, reduceCtorEq, hg, h10, UInt8.reduceToNat] <;> with_reducible rfl) ?_ ?_ <;> (intro h; first | (exfalso; omega) | skip))
          | fail)
        all_goals try (first | exact True.intro | omega)
        all_goals try (simp (disch := first | omega | (simp only [go_sem]; omega)) only [go_sem, get_miss, seval, reduceCtorEq] <;> first | exact True.intro | omega)
        all_goals exact ⟨(i + 1, i + 1, L ++ [(s.take i).drop at_]), ⟨by simp; omega, by simp; omega, Nat.le_refl _, by rw [h3]; simp⟩, Sub.of_all (by simp [Fr.get]), by simp, by simp; omega⟩
      · rw [if_neg h10, ← ht] at h3
        have hne : ¬ ((s[i].toNat : Int) = 10) := fun e => h10 (UInt8.toNat_inj.1 (by show s[i].toNat = 10; omega))
        repeat' (first
          | refine aC_seq ?_
          | refine aC_reg rfl ?_
          | refine aC_block ?_
          | refine aC_skip ?_
          | refine aC_loop ?_
          | refine aC_scope ?_
          | refine scopeQ_normal ?_
          | refine scopeQ_exit ?_
          | refine scopeQ_ret ?_
          | refine aC_exit ?_
          | refine aC_ret ?_
          | refine thenQ_normal ?_
          | refine blockQ_normal ?_
          | refine thenQ_ret ?_
          | refine blockQ_ret ?_
          | refine thenQ_exit ?_
          | refine blockQ_hit ?_
          | refine blockQ_miss rfl ?_
          | refine aL_nil ?_
          | (apply aL_step; (· exact True.intro); (· simp (disch := first | omega | (simp only [go_sem]; omega)) only [go_sem, get_miss, seval, reduceCtorEq, hg]); (· simp (disch := first | omega | (simp only [go_sem]; omega)) only [go_sem, get_miss, seval, reduceCtorEq, hg] <;> with_reducible rfl); (· simp only [go_sem] <;> with_reducible rfl))
          | (refine aL_skip ?_ (by simp only [go_sem] <;> with_reducible rfl) ?_; (· simp (disch := first | omega | (simp only [go_sem]; omega)) only [go_sem, get_miss, seval, reduceCtorEq, hg]))
          | (apply aL_guardN; (· simp (disch := first | omega | (simp only [go_sem]; omega)) only [go_sem, get_miss, seval, reduceCtorEq, hg] <;> with_reducible rfl); all_goals (intro h; first | (exfalso; omega) | (simp only [h, decide_true, decide_false, not_true, not_false_iff])))
          | (apply aL_guardP; (· simp (disch := first | omega | (simp only [go_sem]; omega)) only [go_sem, get_miss, seval, reduceCtorEq, hg] <;> with_reducible rfl); all_goals (intro h; first | (exfalso; omega) | (simp only [h, decide_true, decide_false, not_true, not_false_iff])))
          | (refine aC_condT ?_ ?_; (· simp (disch := first | omega | (simp only [go_sem]; omega)) only [go_sem, get_miss, seval, reduceCtorEq, hg]))
          | (refine aC_condF ?_ ?_; (· simp (disch := first | omega | (simp only [go_sem]; omega)) only [go_sem, get_miss, seval, reduceCtorEq, hg]))
          | (refine aC_condP (by simp (disch := first | omega | (simp only [go_sem]; omega)) only [go_sem, get_miss, seval, reduceCtorEq, hg] <;> with_reducible rfl) ?_ ?_ <;> (intro h; first | (exfalso; omega) | skip))
          | fail)
        all_goals try (first | exact True.intro | omega)
        all_goals try (simp (disch := first | omega | (simp only [go_sem]; omega)) only [go_sem, get_miss, seval, reduceCtorEq] <;> first | exact True.intro | omega)
        all_goals exact ⟨(i + 1, at_, L), ⟨by simp; omega, by simp; omega, by simp; omega, h3⟩, Sub.of_all (by simp [Fr.get]), rfl, by simp; omega⟩
    · have hi : i = s.length := by omega
      subst hi
      rw [List.take_length, List.drop_length] at h3
      simp only [lnA] at h3
      by_cases hat : at_ < s.length
      · rw [if_neg (by intro e; have := congrArg List.length e; simp at this; omega)] at h3
        rw [h3]
        repeat' (first
          | refine aC_seq ?_
          | refine aC_reg rfl ?_
          | refine aC_block ?_
          | refine aC_skip ?_
          | refine aC_loop ?_
          | refine aC_scope ?_
          | refine scopeQ_normal ?_
          | refine scopeQ_exit ?_
          | refine scopeQ_ret ?_
          | refine aC_exit ?_
          | refine aC_ret ?_
          | refine thenQ_normal ?_
          | refine blockQ_normal ?_
          | refine thenQ_ret ?_
          | refine blockQ_ret ?_
          | refine thenQ_exit ?_
          | refine blockQ_hit ?_
          | refine blockQ_miss rfl ?_
          | refine aL_nil ?_
          | (apply aL_step; (· exact True.intro); (· simp (disch := first | omega | (simp only [go_sem]; omega)) only [go_sem, get_miss, seval, reduceCtorEq]); (· simp (disch := first | omega | (simp only [go_sem]; omega)) only [go_sem, get_miss, seval, reduceCtorEq] <;> with_reducible rfl); (· simp only [go_sem] <;> with_reducible rfl))
          | (refine aL_skip ?_ (by simp only [go_sem] <;> with_reducible rfl) ?_; (· simp (disch := first | omega | (simp only [go_sem]; omega)) only [go_sem, get_miss, seval, reduceCtorEq]))
          | (apply aL_guardN; (· simp (disch := first | omega | (simp only [go_sem]; omega)) only [go_sem, get_miss, seval, reduceCtorEq] <;> with_reducible rfl); all_goals (intro h; first | (exfalso; omega) | (simp only [h, decide_true, decide_false, not_true, not_false_iff])))
          | (apply aL_guardP; (· simp (disch := first | omega | (simp only [go_sem]; omega)) only [go_sem, get_miss, seval, reduceCtorEq] <;> with_reducible rfl); all_goals (intro h; first | (exfalso; omega) | (simp only [h, decide_true, decide_false, not_true, not_false_iff])))
          | (refine aC_condT ?_ ?_; (· simp (disch := first | omega | (simp only [go_sem]; omega)) only [go_sem, get_miss, seval, reduceCtorEq]))
          | (refine aC_condF ?_ ?_; (· simp (disch := first | omega | (simp only [go_sem]; omega)) only [go_sem, get_miss, seval, reduceCtorEq]))
          | (refine aC_condP (by simp (disch := first | omega | (simp only [go_sem]; omega)) only [go_sem, get_miss, seval, reduceCtorEq] <;> with_reducible rfl) ?_ ?_ <;> (intro h; first | (exfalso; omega) | skip))
          | fail)
        all_goals try (first | exact True.intro | omega)
        all_goals try (simp (disch := first | omega | (simp only [go_sem]; omega)) only [go_sem, get_miss, seval, reduceCtorEq] <;> first | exact True.intro | omega)
        all_goals try (simp (disch := first | omega | (simp only [go_sem]; omega)) only [go_sem, get_miss, seval, reduceCtorEq])
        all_goals try simp
        all_goals (rintro x (⟨a, _, rfl⟩ | rfl) <;> simp)
      · rw [if_pos (List.drop_eq_nil_of_le (by omega)), List.append_nil] at h3
        rw [h3]
        repeat' (first
          | refine aC_seq ?_
          | refine aC_reg rfl ?_
          | refine aC_block ?_
          | refine aC_skip ?_
          | refine aC_loop ?_
          | refine aC_scope ?_
          | refine scopeQ_normal ?_
          | refine scopeQ_exit ?_
          | refine scopeQ_ret ?_
          | refine aC_exit ?_
          | refine aC_ret ?_
          | refine thenQ_normal ?_
          | refine blockQ_normal ?_
          | refine thenQ_ret ?_
          | refine blockQ_ret ?_
          | refine thenQ_exit ?_
          | refine blockQ_hit ?_
          | refine blockQ_miss rfl ?_
          | refine aL_nil ?_
          | (apply aL_step; (· exact True.intro); (· simp (disch := first | omega | (simp only [go_sem]; omega)) only [go_sem, get_miss, seval, reduceCtorEq]); (· simp (disch := first | omega | (simp only [go_sem]; omega)) only [go_sem, get_miss, seval, reduceCtorEq] <;> with_reducible rfl); (· simp only [go_sem] <;> with_reducible rfl))
          | (refine aL_skip ?_ (by simp only [go_sem] <;> with_reducible rfl) ?_; (· simp (disch := first | omega | (simp only [go_sem]; omega)) only [go_sem, get_miss, seval, reduceCtorEq]))
          | (apply aL_guardN; (· simp (disch := first | omega | (simp only [go_sem]; omega)) only [go_sem, get_miss, seval, reduceCtorEq] <;> with_reducible rfl); all_goals (intro h; first | (exfalso; omega) | (simp only [h, decide_true, decide_false, not_true, not_false_iff])))
          | (apply aL_guardP; (· simp (disch := first | omega | (simp only [go_sem]; omega)) only [go_sem, get_miss, seval, reduceCtorEq] <;> with_reducible rfl); all_goals (intro h; first | (exfalso; omega) | (simp only [h, decide_true, decide_false, not_true, not_false_iff])))
          | (refine aC_condT ?_ ?_; (· simp (disch := first | omega | (simp only [go_sem]; omega)) only [go_sem, get_miss, seval, reduceCtorEq]))
          | (refine aC_condF ?_ ?_; (· simp (disch := first | omega | (simp only [go_sem]; omega)) only [go_sem, get_miss, seval, reduceCtorEq]))
          | (refine aC_condP (by simp (disch := first | omega | (simp only [go_sem]; omega)) only [go_sem, get_miss, seval, reduceCtorEq] <;> with_reducible rfl) ?_ ?_ <;> (intro h; first | (exfalso; omega) | skip))
          | fail)
        all_goals try (first | exact True.intro | omega)
        all_goals try (simp (disch := first | omega | (simp only [go_sem]; omega)) only [go_sem, get_miss, seval, reduceCtorEq] <;> first | exact True.intro | omega)
        all_goals try (simp (disch := first | omega | (simp only [go_sem]; omega)) only [go_sem, get_miss, seval, reduceCtorEq])
        all_goals try simp
  all_goals trivial

theorem ref_Program (s : List UInt8) (hs : s.length ≤ 20000) (r : AVal)
    (hr : (512 < (linesG s).length ∧ r = .tup [.sl 1 true [] .any, .int .i64 0, .int .i64 3]) ∨
      ((linesG s).length ≤ 512 ∧ (∀ x ∈ linesG s, IsLine x) ∧ r = .tup [.sl 1 (linesG s).isEmpty (wl ((linesG s).map wordL)) .any, .int .i64 0, .int .i64 0]) ∨
      ((linesG s).length ≤ 512 ∧ ∃ k, ∃ h : k < (linesG s).length, (∀ x ∈ (linesG s).take k, IsLine x) ∧ ¬ IsLine (linesG s)[k] ∧ r = .tup [.sl 1 true [] .any, .int .i64 k, .int .i64 4])) :
    APure cx 6 [.str s] r := by
  have hl := ref_Lines s hs
  rw [← linesG_lnA _ s (Nat.le_refl _)] at hl
  have hb : ∀ x ∈ linesG s, x.length ≤ 20000 := by
    intro x hx
    unfold linesG at hx
    split at hx
    · cases hx
    · have := parts_sizes _ _ x hx
      have htl : (trimS s).length ≤ s.length := by unfold trimS; split <;> simp
      omega
  have hLs : (linesG s).length ≤ 1000000 := by
    unfold linesG
    split
    · simp
    · obtain ⟨w0, wr, hw, hwl⟩ := parts_len (trimS s) [10] (by decide)
      have htl : (trimS s).length ≤ s.length := by unfold trimS; split <;> simp
      rw [hw]
      simp only [List.length_cons]
      omega
  generalize linesG s = L at *
  by_cases h512 : 512 < L.length
  · have hr' : r = .tup [.sl 1 true [] .any, .int .i64 0, .int .i64 3] := by
      rcases hr with ⟨_, h⟩ | ⟨h, _⟩ | ⟨h, _⟩
      · exact h
      · exact absurd h512 (by omega)
      · exact absurd h512 (by omega)
    subst hr'
    clear hr
    refine pure_fn cxOk Tryz.func6 (by kernel_rfl) (fun _ => false) (fun _ => none) (by kernel_rfl) (Nat.le_of_ble_eq_true (by kernel_rfl)) ?_
    dsimp only [LB, Tryz.f6, lite, nextOf, Option.isNone, Bool.not_true, Bool.not_false, Bool.and_true, Bool.true_and, Bool.false_and, Bool.and_self, Bool.false_eq_true, if_false, if_true, ↓reduceIte, liteO, List.map, Option.map, frame0, List.zipIdx, Nat.reduceAdd]
    try simp only [List.getElem?_toArray, List.getElem?_cons_succ, List.getElem?_cons_zero, Option.bind_some]
    repeat' (first
      | refine aC_seq ?_
      | refine aC_reg rfl ?_
      | refine aC_block ?_
      | refine aC_skip ?_
      | refine aC_loop ?_
      | refine aC_scope ?_
      | refine scopeQ_normal ?_
      | refine scopeQ_exit ?_
      | refine scopeQ_ret ?_
      | refine aC_exit ?_
      | refine aC_ret ?_
      | refine thenQ_normal ?_
      | refine blockQ_normal ?_
      | refine thenQ_ret ?_
      | refine blockQ_ret ?_
      | refine thenQ_exit ?_
      | refine blockQ_hit ?_
      | refine blockQ_miss rfl ?_
      | refine aL_nil ?_
      | (apply aL_step; (· exact True.intro); (· simp (disch := first | omega | (simp only [go_sem]; omega)) only [go_sem, get_miss, seval, reduceCtorEq]); (· simp (disch := first | omega | (simp only [go_sem]; omega)) only [go_sem, get_miss, seval, reduceCtorEq] <;> with_reducible rfl); (· simp only [go_sem] <;> with_reducible rfl))
      | (refine aL_skip ?_ (by simp only [go_sem] <;> with_reducible rfl) ?_; (· simp (disch := first | omega | (simp only [go_sem]; omega)) only [go_sem, get_miss, seval, reduceCtorEq]))
      | (apply aL_guardN; (· simp (disch := first | omega | (simp only [go_sem]; omega)) only [go_sem, get_miss, seval, reduceCtorEq] <;> with_reducible rfl); all_goals (intro h; first | (exfalso; omega) | (simp only [h, decide_true, decide_false, not_true, not_false_iff])))
      | (apply aL_guardP; (· simp (disch := first | omega | (simp only [go_sem]; omega)) only [go_sem, get_miss, seval, reduceCtorEq] <;> with_reducible rfl); all_goals (intro h; first | (exfalso; omega) | (simp only [h, decide_true, decide_false, not_true, not_false_iff])))
      | (refine aC_condT ?_ ?_; (· simp (disch := first | omega | (simp only [go_sem]; omega)) only [go_sem, get_miss, seval, reduceCtorEq]))
      | (refine aC_condF ?_ ?_; (· simp (disch := first | omega | (simp only [go_sem]; omega)) only [go_sem, get_miss, seval, reduceCtorEq]))
      | (refine aC_condP (by simp (disch := first | omega | (simp only [go_sem]; omega)) only [go_sem, get_miss, seval, reduceCtorEq] <;> with_reducible rfl) ?_ ?_ <;> (intro h; first | (exfalso; omega) | skip))
      | (apply aL_pure cxG (hl); (case hg => (simp (disch := first | omega | (simp only [go_sem]; omega)) only [go_sem, get_miss, seval, reduceCtorEq])); (case hx => (simp (disch := first | omega | (simp only [go_sem]; omega)) only [go_sem, get_miss, seval, reduceCtorEq] <;> with_reducible rfl)); (case ha => (simp (disch := first | omega | (simp only [go_sem]; omega)) only [go_sem, get_miss, seval, reduceCtorEq] <;> with_reducible rfl)); (case he => (simp only [go_sem] <;> with_reducible rfl)); (case hcl => (simp)); (case hf => (simp only [go_sem] <;> with_reducible rfl)))
      | fail)
    all_goals try (first | exact True.intro | omega)
    all_goals try (simp (disch := first | omega | (simp only [go_sem]; omega)) only [go_sem, get_miss, seval, reduceCtorEq] <;> first | exact True.intro | omega)
    all_goals try (simp (disch := first | omega | (simp only [go_sem]; omega)) only [go_sem, get_miss, seval, reduceCtorEq])
    all_goals try simp
  have hyes : (∀ x ∈ L, IsLine x) → r = .tup [.sl 1 L.isEmpty (wl (L.map wordL)) .any, .int .i64 0, .int .i64 0] := by
    intro h
    rcases hr with ⟨k, _⟩ | ⟨_, _, k⟩ | ⟨_, k, hk, _, hn, _⟩
    · exact absurd k h512
    · exact k
    · exact absurd (h _ (List.getElem_mem hk)) hn
  have hno : ∀ k (h : k < L.length), (∀ x ∈ L.take k, IsLine x) → ¬ IsLine L[k] → r = .tup [.sl 1 true [] .any, .int .i64 k, .int .i64 4] := by
    intro k hk h1 h2
    rcases hr with ⟨q, _⟩ | ⟨_, h, _⟩ | ⟨_, j, hj, g1, g2, e⟩
    · exact absurd q h512
    · exact absurd (h _ (List.getElem_mem hk)) h2
    · have : j = k := by
        rcases Nat.lt_trichotomy j k with h | h | h
        · exact absurd (h1 _ (List.mem_take_iff_getElem.2 ⟨j, by omega, rfl⟩)) g2
        · exact h
        · exact absurd (g1 _ (List.mem_take_iff_getElem.2 ⟨k, by omega, rfl⟩)) h2
      subst this
      exact e
  clear hr
  refine pure_fn cxOk Tryz.func6 (by kernel_rfl) (fun _ => false) (fun _ => none) (by kernel_rfl) (Nat.le_of_ble_eq_true (by kernel_rfl)) ?_
  dsimp only [LB, Tryz.f6, lite, nextOf, Option.isNone, Bool.not_true, Bool.not_false, Bool.and_true, Bool.true_and, Bool.false_and, Bool.and_self, Bool.false_eq_true, if_false, if_true, ↓reduceIte, liteO, List.map, Option.map, frame0, List.zipIdx, Nat.reduceAdd]
  try simp only [List.getElem?_toArray, List.getElem?_cons_succ, List.getElem?_cons_zero, Option.bind_some]
  repeat' (first
    | refine aC_seq ?_
    | refine aC_reg rfl ?_
    | refine aC_block ?_
    | refine aC_skip ?_
    | refine aC_loop ?_
    | refine aC_scope ?_
    | refine scopeQ_normal ?_
    | refine scopeQ_exit ?_
    | refine scopeQ_ret ?_
    | refine aC_exit ?_
    | refine aC_ret ?_
    | refine thenQ_normal ?_
    | refine blockQ_normal ?_
    | refine thenQ_ret ?_
    | refine blockQ_ret ?_
    | refine thenQ_exit ?_
    | refine blockQ_hit ?_
    | refine blockQ_miss rfl ?_
    | refine aL_nil ?_
    | (apply aL_step; (· exact True.intro); (· simp (disch := first | omega | (simp only [go_sem]; omega)) only [go_sem, get_miss, seval, reduceCtorEq]); (· simp (disch := first | omega | (simp only [go_sem]; omega)) only [go_sem, get_miss, seval, reduceCtorEq] <;> with_reducible rfl); (· simp only [go_sem] <;> with_reducible rfl))
    | (refine aL_skip ?_ (by simp only [go_sem] <;> with_reducible rfl) ?_; (· simp (disch := first | omega | (simp only [go_sem]; omega)) only [go_sem, get_miss, seval, reduceCtorEq]))
    | (apply aL_guardN; (· simp (disch := first | omega | (simp only [go_sem]; omega)) only [go_sem, get_miss, seval, reduceCtorEq] <;> with_reducible rfl); all_goals (intro h; first | (exfalso; omega) | (simp only [h, decide_true, decide_false, not_true, not_false_iff])))
    | (apply aL_guardP; (· simp (disch := first | omega | (simp only [go_sem]; omega)) only [go_sem, get_miss, seval, reduceCtorEq] <;> with_reducible rfl); all_goals (intro h; first | (exfalso; omega) | (simp only [h, decide_true, decide_false, not_true, not_false_iff])))
    | (refine aC_condT ?_ ?_; (· simp (disch := first | omega | (simp only [go_sem]; omega)) only [go_sem, get_miss, seval, reduceCtorEq]))
    | (refine aC_condF ?_ ?_; (· simp (disch := first | omega | (simp only [go_sem]; omega)) only [go_sem, get_miss, seval, reduceCtorEq]))
    | (refine aC_condP (by simp (disch := first | omega | (simp only [go_sem]; omega)) only [go_sem, get_miss, seval, reduceCtorEq] <;> with_reducible rfl) ?_ ?_ <;> (intro h; first | (exfalso; omega) | skip))
    | (apply aL_pure cxG (hl); (case hg => (simp (disch := first | omega | (simp only [go_sem]; omega)) only [go_sem, get_miss, seval, reduceCtorEq])); (case hx => (simp (disch := first | omega | (simp only [go_sem]; omega)) only [go_sem, get_miss, seval, reduceCtorEq] <;> with_reducible rfl)); (case ha => (simp (disch := first | omega | (simp only [go_sem]; omega)) only [go_sem, get_miss, seval, reduceCtorEq] <;> with_reducible rfl)); (case he => (simp only [go_sem] <;> with_reducible rfl)); (case hcl => (simp)); (case hf => (simp only [go_sem] <;> with_reducible rfl)))
    | fail)
  · refine loop_ruleD (cxOk.wp _ _) (cxG.wp _ _) (σ := Nat) (fun k => [(7, .int .i64 k), (6, .sl 1 ((L.take k).map wordL).isEmpty (wl ((L.take k).map wordL)) (.grow 0)), (5, .sl 1 L.isEmpty (L.map .str) .any)])
      (fun k => [.grow ((L.take k).map wordL).length 1 36]) (fun k => L.length - k) (fun k => k ≤ L.length ∧ ∀ x ∈ L.take k, IsLine x)
      1 0 (GStep.nil 6 1 36 rfl) ⟨⟨Nat.zero_le _, by simp⟩, Sub.of_all (by simp [Fr.get, nil_wl]), by simp⟩ (by simp) (fun k _ => ⟨by kernel_rfl, by simp [belF, bel, bels_wl, bels_str, belT, Nat.blt]⟩) ?_
    rintro k ⟨hk, hJ⟩
    by_cases hlt : k < L.length
    · have hx : L[k].length ≤ 20000 := hb _ (List.getElem_mem hlt)
      have hgd : (L.map AVal.str).getD k .any = .str L[k] := by simp [List.getD, hlt]
      have hsn := wl_snoc L k hlt
      have htk : ((L.take k).map wordL).length = k := by rw [List.length_map, List.length_take]; omega
      have htk1 : ((L.take (k + 1)).map wordL).length = k + 1 := by rw [List.length_map, List.length_take]; omega
      have hte : ((L.take (k + 1)).map wordL).isEmpty = false := by
        cases hq : (L.take (k + 1)).map wordL with
        | nil => rw [hq] at htk1; simp at htk1
        | cons => rfl
      have hlm : (L.map AVal.str).length = L.length := List.length_map _
      by_cases hI : IsLine L[k]
      · have hJ' : ∀ x ∈ L.take (k + 1), IsLine x := by
          rw [List.take_succ_eq_append_getElem hlt]
          intro x hx
          rcases List.mem_append.1 hx with h | h
          · exact hJ x h
          · rw [List.mem_singleton.1 h]; exact hI
        obtain ⟨op, d, a, b, i, hI⟩ := hI
        generalize hW : (L.take k).map wordL = W at *
        have hu := ref_Untext L[k] hx _ (.inl ⟨op, d, a, b, i, hI, rfl⟩)
        have he := ref_Encode op d a b i hI.1
        rw [← wordL_eq hI] at he
        clear hyes hno hI
        generalize hN : wordL L[k] = N at *
        repeat' (first
          | refine aC_seq ?_
          | refine aC_reg rfl ?_
          | refine aC_block ?_
          | refine aC_skip ?_
          | refine aC_loop ?_
          | refine aC_scope ?_
          | refine scopeQ_normal ?_
          | refine scopeQ_exit ?_
          | refine scopeQ_ret ?_
          | refine aC_exit ?_
          | refine aC_ret ?_
          | refine thenQ_normal ?_
          | refine blockQ_normal ?_
          | refine thenQ_ret ?_
          | refine blockQ_ret ?_
          | refine thenQ_exit ?_
          | refine blockQ_hit ?_
          | refine blockQ_miss rfl ?_
          | refine aL_nil ?_
          | (apply aL_step; (· exact True.intro); (· simp (disch := first | omega | (simp only [go_sem]; omega)) only [go_sem, get_miss, seval, reduceCtorEq, hgd, hlm, List.isEmpty_cons, Bool.and_false]); (· simp (disch := first | omega | (simp only [go_sem]; omega)) only [go_sem, get_miss, seval, reduceCtorEq, hgd, hlm, List.isEmpty_cons, Bool.and_false] <;> with_reducible rfl); (· simp only [go_sem] <;> with_reducible rfl))
          | (refine aL_skip ?_ (by simp only [go_sem] <;> with_reducible rfl) ?_; (· simp (disch := first | omega | (simp only [go_sem]; omega)) only [go_sem, get_miss, seval, reduceCtorEq, hgd, hlm, List.isEmpty_cons, Bool.and_false]))
          | (apply aL_guardN; (· simp (disch := first | omega | (simp only [go_sem]; omega)) only [go_sem, get_miss, seval, reduceCtorEq, hgd, hlm, List.isEmpty_cons, Bool.and_false] <;> with_reducible rfl); all_goals (intro h; first | (exfalso; omega) | (simp only [h, decide_true, decide_false, not_true, not_false_iff])))
          | (apply aL_guardP; (· simp (disch := first | omega | (simp only [go_sem]; omega)) only [go_sem, get_miss, seval, reduceCtorEq, hgd, hlm, List.isEmpty_cons, Bool.and_false] <;> with_reducible rfl); all_goals (intro h; first | (exfalso; omega) | (simp only [h, decide_true, decide_false, not_true, not_false_iff])))
          | (refine aC_condT ?_ ?_; (· simp (disch := first | omega | (simp only [go_sem]; omega)) only [go_sem, get_miss, seval, reduceCtorEq, hgd, hlm, List.isEmpty_cons, Bool.and_false]))
          | (refine aC_condF ?_ ?_; (· simp (disch := first | omega | (simp only [go_sem]; omega)) only [go_sem, get_miss, seval, reduceCtorEq, hgd, hlm, List.isEmpty_cons, Bool.and_false]))
          | (refine aC_condP (by simp (disch := first | omega | (simp only [go_sem]; omega)) only [go_sem, get_miss, seval, reduceCtorEq, hgd, hlm, List.isEmpty_cons, Bool.and_false] <;> with_reducible rfl) ?_ ?_ <;> (intro h; first | (exfalso; omega) | skip))
          | (apply aL_pure cxG (hu); (case hg => (simp (disch := first | omega | (simp only [go_sem]; omega)) only [go_sem, get_miss, seval, reduceCtorEq, hgd, hlm, List.isEmpty_cons, Bool.and_false])); (case hx => (simp (disch := first | omega | (simp only [go_sem]; omega)) only [go_sem, get_miss, seval, reduceCtorEq, hgd, hlm, List.isEmpty_cons, Bool.and_false] <;> with_reducible rfl)); (case ha => (simp (disch := first | omega | (simp only [go_sem]; omega)) only [go_sem, get_miss, seval, reduceCtorEq, hgd, hlm, List.isEmpty_cons, Bool.and_false] <;> with_reducible rfl)); (case he => (simp only [go_sem] <;> with_reducible rfl)); (case hcl => (simp)); (case hf => (simp only [go_sem] <;> with_reducible rfl)))
          | (apply aL_pure cxG (he); (case hg => (simp (disch := first | omega | (simp only [go_sem]; omega)) only [go_sem, get_miss, seval, reduceCtorEq, hgd, hlm, List.isEmpty_cons, Bool.and_false])); (case hx => (simp (disch := first | omega | (simp only [go_sem]; omega)) only [go_sem, get_miss, seval, reduceCtorEq, hgd, hlm, List.isEmpty_cons, Bool.and_false] <;> with_reducible rfl)); (case ha => (simp (disch := first | omega | (simp only [go_sem]; omega)) only [go_sem, get_miss, seval, reduceCtorEq, hgd, hlm, List.isEmpty_cons, Bool.and_false] <;> with_reducible rfl)); (case he => (simp only [go_sem] <;> with_reducible rfl)); (case hcl => (simp)); (case hf => (simp only [go_sem] <;> with_reducible rfl)))
          | fail)
        all_goals try (first | exact True.intro | omega)
        all_goals try (simp (disch := first | omega | (simp only [go_sem]; omega)) only [go_sem, get_miss, seval, reduceCtorEq] <;> first | exact True.intro | omega)
        all_goals
        refine ⟨k + 1, ⟨by omega, hJ'⟩, ?_, ?_, by omega⟩
        · show Sub _ [(7, .int .i64 ((k + 1 : Nat) : Int)), (6, .sl 1 ((L.take (k + 1)).map wordL).isEmpty (wl ((L.take (k + 1)).map wordL)) (.grow 0)), (5, .sl 1 L.isEmpty (L.map .str) .any)]
          rw [← hsn, hte]
          exact Sub.of_all (by simp [Fr.get])
        · show _ = [ABox.grow ((L.take (k + 1)).map wordL).length 1 36]
          rw [htk1, ← htk]
          rfl
      · have hu := ref_Untext L[k] hx _ (.inr ⟨fun op d a b i h => hI ⟨op, d, a, b, i, h⟩, rfl⟩)
        have hr' := hno k hlt hJ hI
        clear hyes hno
        generalize hW : (L.take k).map wordL = W at *
        subst hr'
        repeat' (first
          | refine aC_seq ?_
          | refine aC_reg rfl ?_
          | refine aC_block ?_
          | refine aC_skip ?_
          | refine aC_loop ?_
          | refine aC_scope ?_
          | refine scopeQ_normal ?_
          | refine scopeQ_exit ?_
          | refine scopeQ_ret ?_
          | refine aC_exit ?_
          | refine aC_ret ?_
          | refine thenQ_normal ?_
          | refine blockQ_normal ?_
          | refine thenQ_ret ?_
          | refine blockQ_ret ?_
          | refine thenQ_exit ?_
          | refine blockQ_hit ?_
          | refine blockQ_miss rfl ?_
          | refine aL_nil ?_
          | (apply aL_step; (· exact True.intro); (· simp (disch := first | omega | (simp only [go_sem]; omega)) only [go_sem, get_miss, seval, reduceCtorEq, hgd, hlm]); (· simp (disch := first | omega | (simp only [go_sem]; omega)) only [go_sem, get_miss, seval, reduceCtorEq, hgd, hlm] <;> with_reducible rfl); (· simp only [go_sem] <;> with_reducible rfl))
          | (refine aL_skip ?_ (by simp only [go_sem] <;> with_reducible rfl) ?_; (· simp (disch := first | omega | (simp only [go_sem]; omega)) only [go_sem, get_miss, seval, reduceCtorEq, hgd, hlm]))
          | (apply aL_guardN; (· simp (disch := first | omega | (simp only [go_sem]; omega)) only [go_sem, get_miss, seval, reduceCtorEq, hgd, hlm] <;> with_reducible rfl); all_goals (intro h; first | (exfalso; omega) | (simp only [h, decide_true, decide_false, not_true, not_false_iff])))
          | (apply aL_guardP; (· simp (disch := first | omega | (simp only [go_sem]; omega)) only [go_sem, get_miss, seval, reduceCtorEq, hgd, hlm] <;> with_reducible rfl); all_goals (intro h; first | (exfalso; omega) | (simp only [h, decide_true, decide_false, not_true, not_false_iff])))
          | (refine aC_condT ?_ ?_; (· simp (disch := first | omega | (simp only [go_sem]; omega)) only [go_sem, get_miss, seval, reduceCtorEq, hgd, hlm]))
          | (refine aC_condF ?_ ?_; (· simp (disch := first | omega | (simp only [go_sem]; omega)) only [go_sem, get_miss, seval, reduceCtorEq, hgd, hlm]))
          | (refine aC_condP (by simp (disch := first | omega | (simp only [go_sem]; omega)) only [go_sem, get_miss, seval, reduceCtorEq, hgd, hlm] <;> with_reducible rfl) ?_ ?_ <;> (intro h; first | (exfalso; omega) | skip))
          | (apply aL_pure cxG (hu); (case hg => (simp (disch := first | omega | (simp only [go_sem]; omega)) only [go_sem, get_miss, seval, reduceCtorEq, hgd, hlm])); (case hx => (simp (disch := first | omega | (simp only [go_sem]; omega)) only [go_sem, get_miss, seval, reduceCtorEq, hgd, hlm] <;> with_reducible rfl)); (case ha => (simp (disch := first | omega | (simp only [go_sem]; omega)) only [go_sem, get_miss, seval, reduceCtorEq, hgd, hlm] <;> with_reducible rfl)); (case he => (simp only [go_sem] <;> with_reducible rfl)); (case hcl => (simp)); (case hf => (simp only [go_sem] <;> with_reducible rfl)))
          | fail)
        all_goals try (first | exact True.intro | omega)
        all_goals try (simp (disch := first | omega | (simp only [go_sem]; omega)) only [go_sem, get_miss, seval, reduceCtorEq] <;> first | exact True.intro | omega)
        all_goals try (simp (disch := first | omega | (simp only [go_sem]; omega)) only [go_sem, get_miss, seval, reduceCtorEq])
        all_goals try simp
    · have hk' : k = L.length := by omega
      subst hk'
      have hlm : (L.map AVal.str).length = L.length := List.length_map _
      rw [List.take_length] at hJ
      rw [hyes hJ]
      clear hyes hno
      simp only [List.take_length]
      repeat' (first
        | refine aC_seq ?_
        | refine aC_reg rfl ?_
        | refine aC_block ?_
        | refine aC_skip ?_
        | refine aC_loop ?_
        | refine aC_scope ?_
        | refine scopeQ_normal ?_
        | refine scopeQ_exit ?_
        | refine scopeQ_ret ?_
        | refine aC_exit ?_
        | refine aC_ret ?_
        | refine thenQ_normal ?_
        | refine blockQ_normal ?_
        | refine thenQ_ret ?_
        | refine blockQ_ret ?_
        | refine thenQ_exit ?_
        | refine blockQ_hit ?_
        | refine blockQ_miss rfl ?_
        | refine aL_nil ?_
        | (apply aL_step; (· exact True.intro); (· simp (disch := first | omega | (simp only [go_sem]; omega)) only [go_sem, get_miss, seval, reduceCtorEq, hlm]); (· simp (disch := first | omega | (simp only [go_sem]; omega)) only [go_sem, get_miss, seval, reduceCtorEq, hlm] <;> with_reducible rfl); (· simp only [go_sem] <;> with_reducible rfl))
        | (refine aL_skip ?_ (by simp only [go_sem] <;> with_reducible rfl) ?_; (· simp (disch := first | omega | (simp only [go_sem]; omega)) only [go_sem, get_miss, seval, reduceCtorEq, hlm]))
        | (apply aL_guardN; (· simp (disch := first | omega | (simp only [go_sem]; omega)) only [go_sem, get_miss, seval, reduceCtorEq, hlm] <;> with_reducible rfl); all_goals (intro h; first | (exfalso; omega) | (simp only [h, decide_true, decide_false, not_true, not_false_iff])))
        | (apply aL_guardP; (· simp (disch := first | omega | (simp only [go_sem]; omega)) only [go_sem, get_miss, seval, reduceCtorEq, hlm] <;> with_reducible rfl); all_goals (intro h; first | (exfalso; omega) | (simp only [h, decide_true, decide_false, not_true, not_false_iff])))
        | (refine aC_condT ?_ ?_; (· simp (disch := first | omega | (simp only [go_sem]; omega)) only [go_sem, get_miss, seval, reduceCtorEq, hlm]))
        | (refine aC_condF ?_ ?_; (· simp (disch := first | omega | (simp only [go_sem]; omega)) only [go_sem, get_miss, seval, reduceCtorEq, hlm]))
        | (refine aC_condP (by simp (disch := first | omega | (simp only [go_sem]; omega)) only [go_sem, get_miss, seval, reduceCtorEq, hlm] <;> with_reducible rfl) ?_ ?_ <;> (intro h; first | (exfalso; omega) | skip))
        | fail)
      all_goals try (first | exact True.intro | omega)
      all_goals try (simp (disch := first | omega | (simp only [go_sem]; omega)) only [go_sem, get_miss, seval, reduceCtorEq] <;> first | exact True.intro | omega)
      all_goals try (simp (disch := first | omega | (simp only [go_sem]; omega)) only [go_sem, get_miss, seval, reduceCtorEq])
      all_goals try simp
  all_goals trivial

theorem ref_TextW {w : Nat} (hM : MayW w) : APure cx 28 [.agg [.int .i64 ((w % 256 : Nat) : Int), .int .i64 ((w / 256 % 256 : Nat) : Int), .int .i64 ((w / 65536 % 256 : Nat) : Int), .int .i64 ((w / 16777216 % 256 : Nat) : Int), .int .i64 (immW w)]] (.str (txtW w)) :=
  ref_Text (may_range hM).1 (may_range hM).2.1 (may_range hM).2.2.1 (may_range hM).2.2.2.1 (may_range hM).2.2.2.2

theorem ref_Listing (nl : Bool) (ws : List Nat) (hw : ∀ w ∈ ws, w < 18446744073709551616) (hl : ws.length ≤ 1048576) (hn : nl = true → ws = []) :
    APure cx 10 [.sl 1 nl (wl ws) .any] (if 512 < ws.length then .tup [.str [], .int .i64 3] else if (∀ w ∈ ws, MayW w) then .tup [.str (textW ws), .int .i64 0] else .tup [.str [], .int .i64 4]) := by
  by_cases h512 : 512 < ws.length
  case pos =>
    rw [if_pos h512]
    refine pure_fn cxOk Tryz.func10 (by kernel_rfl) (fun _ => false) (fun _ => none) (by kernel_rfl) (Nat.le_of_ble_eq_true (by kernel_rfl)) ?_
    dsimp only [LB, Tryz.f10, lite, nextOf, Option.isNone, Bool.not_true, Bool.not_false, Bool.and_true, Bool.true_and, Bool.false_and, Bool.and_self, Bool.false_eq_true, if_false, if_true, ↓reduceIte, liteO, List.map, Option.map, frame0, List.zipIdx, Nat.reduceAdd]
    try simp only [List.getElem?_toArray, List.getElem?_cons_succ, List.getElem?_cons_zero, Option.bind_some]
    repeat' (first
      | refine aC_seq ?_
      | refine aC_reg rfl ?_
      | refine aC_block ?_
      | refine aC_skip ?_
      | refine aC_loop ?_
      | refine aC_scope ?_
      | refine scopeQ_normal ?_
      | refine scopeQ_exit ?_
      | refine scopeQ_ret ?_
      | refine aC_exit ?_
      | refine aC_ret ?_
      | refine thenQ_normal ?_
      | refine blockQ_normal ?_
      | refine thenQ_ret ?_
      | refine blockQ_ret ?_
      | refine thenQ_exit ?_
      | refine blockQ_hit ?_
      | refine blockQ_miss rfl ?_
      | refine aL_nil ?_
      | (apply aL_step; (· exact True.intro); (· simp (disch := first | omega | (simp only [go_sem]; omega)) only [go_sem, get_miss, seval, reduceCtorEq]); (· simp (disch := first | omega | (simp only [go_sem]; omega)) only [go_sem, get_miss, seval, reduceCtorEq] <;> with_reducible rfl); (· simp only [go_sem] <;> with_reducible rfl))
      | (refine aL_skip ?_ (by simp only [go_sem] <;> with_reducible rfl) ?_; (· simp (disch := first | omega | (simp only [go_sem]; omega)) only [go_sem, get_miss, seval, reduceCtorEq]))
      | (apply aL_guardN; (· simp (disch := first | omega | (simp only [go_sem]; omega)) only [go_sem, get_miss, seval, reduceCtorEq] <;> with_reducible rfl); all_goals (intro h; first | (exfalso; omega) | (simp only [h, decide_true, decide_false, not_true, not_false_iff])))
      | (apply aL_guardP; (· simp (disch := first | omega | (simp only [go_sem]; omega)) only [go_sem, get_miss, seval, reduceCtorEq] <;> with_reducible rfl); all_goals (intro h; first | (exfalso; omega) | (simp only [h, decide_true, decide_false, not_true, not_false_iff])))
      | (refine aC_condT ?_ ?_; (· simp (disch := first | omega | (simp only [go_sem]; omega)) only [go_sem, get_miss, seval, reduceCtorEq]))
      | (refine aC_condF ?_ ?_; (· simp (disch := first | omega | (simp only [go_sem]; omega)) only [go_sem, get_miss, seval, reduceCtorEq]))
      | (refine aC_condP (by simp (disch := first | omega | (simp only [go_sem]; omega)) only [go_sem, get_miss, seval, reduceCtorEq] <;> with_reducible rfl) ?_ ?_ <;> (intro h; first | (exfalso; omega) | skip))
      | fail)
    all_goals try (first | exact True.intro | omega)
    all_goals try (simp (disch := first | omega | (simp only [go_sem]; omega)) only [go_sem, get_miss, seval, reduceCtorEq] <;> first | exact True.intro | omega)
    all_goals try (simp (disch := first | omega | (simp only [go_sem]; omega)) only [go_sem, get_miss, seval, reduceCtorEq])
    all_goals try simp
  case neg =>
  rw [if_neg h512]
  have hml : maxLen = 9223372036854775807 := rfl
  generalize hr : (if (∀ w ∈ ws, MayW w) then AVal.tup [.str (textW ws), .int .i64 0] else AVal.tup [.str [], .int .i64 4]) = r
  have hyes : (∀ w ∈ ws, MayW w) → r = .tup [.str (textW ws), .int .i64 0] := fun h => by rw [← hr, if_pos h]
  have hno : ∀ w ∈ ws, ¬ MayW w → r = .tup [.str [], .int .i64 4] := fun w hm h => by rw [← hr, if_neg (fun k => h (k w hm))]
  clear hr
  refine pure_fn cxOk Tryz.func10 (by kernel_rfl) (fun _ => false) (fun _ => none) (by kernel_rfl) (Nat.le_of_ble_eq_true (by kernel_rfl)) ?_
  dsimp only [LB, Tryz.f10, lite, nextOf, Option.isNone, Bool.not_true, Bool.not_false, Bool.and_true, Bool.true_and, Bool.false_and, Bool.and_self, Bool.false_eq_true, if_false, if_true, ↓reduceIte, liteO, List.map, Option.map, frame0, List.zipIdx, Nat.reduceAdd]
  try simp only [List.getElem?_toArray, List.getElem?_cons_succ, List.getElem?_cons_zero, Option.bind_some]
  repeat' (first
    | refine aC_seq ?_
    | refine aC_reg rfl ?_
    | refine aC_block ?_
    | refine aC_skip ?_
    | refine aC_loop ?_
    | refine aC_scope ?_
    | refine scopeQ_normal ?_
    | refine scopeQ_exit ?_
    | refine scopeQ_ret ?_
    | refine aC_exit ?_
    | refine aC_ret ?_
    | refine thenQ_normal ?_
    | refine blockQ_normal ?_
    | refine thenQ_ret ?_
    | refine blockQ_ret ?_
    | refine thenQ_exit ?_
    | refine blockQ_hit ?_
    | refine blockQ_miss rfl ?_
    | refine aL_nil ?_
    | (apply aL_step; (· exact True.intro); (· simp (disch := first | omega | (simp only [go_sem]; omega)) only [go_sem, get_miss, seval, reduceCtorEq]); (· simp (disch := first | omega | (simp only [go_sem]; omega)) only [go_sem, get_miss, seval, reduceCtorEq] <;> with_reducible rfl); (· simp only [go_sem] <;> with_reducible rfl))
    | (refine aL_skip ?_ (by simp only [go_sem] <;> with_reducible rfl) ?_; (· simp (disch := first | omega | (simp only [go_sem]; omega)) only [go_sem, get_miss, seval, reduceCtorEq]))
    | (apply aL_guardN; (· simp (disch := first | omega | (simp only [go_sem]; omega)) only [go_sem, get_miss, seval, reduceCtorEq] <;> with_reducible rfl); all_goals (intro h; first | (exfalso; omega) | (simp only [h, decide_true, decide_false, not_true, not_false_iff])))
    | (apply aL_guardP; (· simp (disch := first | omega | (simp only [go_sem]; omega)) only [go_sem, get_miss, seval, reduceCtorEq] <;> with_reducible rfl); all_goals (intro h; first | (exfalso; omega) | (simp only [h, decide_true, decide_false, not_true, not_false_iff])))
    | (refine aC_condT ?_ ?_; (· simp (disch := first | omega | (simp only [go_sem]; omega)) only [go_sem, get_miss, seval, reduceCtorEq]))
    | (refine aC_condF ?_ ?_; (· simp (disch := first | omega | (simp only [go_sem]; omega)) only [go_sem, get_miss, seval, reduceCtorEq]))
    | (refine aC_condP (by simp (disch := first | omega | (simp only [go_sem]; omega)) only [go_sem, get_miss, seval, reduceCtorEq] <;> with_reducible rfl) ?_ ?_ <;> (intro h; first | (exfalso; omega) | skip))
    | fail)
  · refine loop_ruleD (cxOk.wp _ _) (cxG.wp _ _) (σ := Nat) (fun k => [(5, .int .i64 k), (4, .str (textW (ws.take k))), (0, .sl 1 nl (wl ws) .any)])
      (fun k => []) (fun k => ws.length - k) (fun k => k ≤ ws.length ∧ ∀ w ∈ ws.take k, MayW w)
      0 0 (GStep.refl _ _) ⟨⟨Nat.zero_le _, by simp⟩, Sub.of_all (by simp [Fr.get, frame0, textW]), rfl⟩ (by simp) (fun k _ => ⟨rfl, by simp [belF, bel, bels_wl, belT, Nat.blt]⟩) ?_
    rintro k ⟨hk, hJ⟩
    have htl := textW_len (ws.take k) hJ
    have htk : (ws.take k).length ≤ 512 := by rw [List.length_take]; omega
    by_cases hlt : k < ws.length
    · have hmem : ws.getD k 0 ∈ ws := by simp [List.getD, hlt]
      have hw64 := hw _ hmem
      have hd := ref_Decode (ws.getD k 0) hw64
      by_cases hM : MayW (ws.getD k 0)
      · rw [if_pos hM] at hd
        have ht := ref_TextW hM
        have hxl : (txtW (ws.getD k 0)).length ≤ 80 := txt_len hM
        have htake := textW_take ws k hlt
        have hJ' : ∀ w ∈ ws.take (k + 1), MayW w := by
          rw [List.take_succ_eq_append_getElem hlt]
          intro w hw
          rcases List.mem_append.1 hw with h | h
          · exact hJ w h
          · have : w = ws.getD k 0 := by simpa [List.getD, hlt] using h
            rw [this]; exact hM
        clear hyes hno hM
        have hgd : (wl ws).getD k .any = .int .u64 ((ws.getD k 0 : Nat) : Int) := getD_wl ws k _ hlt
        generalize ws.getD k 0 = w at *
        generalize hbs : textW (ws.take k) = bs at *
        generalize hX : txtW w = X at *
        repeat' (first
          | refine aC_seq ?_
          | refine aC_reg rfl ?_
          | refine aC_block ?_
          | refine aC_skip ?_
          | refine aC_loop ?_
          | refine aC_scope ?_
          | refine scopeQ_normal ?_
          | refine scopeQ_exit ?_
          | refine scopeQ_ret ?_
          | refine aC_exit ?_
          | refine aC_ret ?_
          | refine thenQ_normal ?_
          | refine blockQ_normal ?_
          | refine thenQ_ret ?_
          | refine blockQ_ret ?_
          | refine thenQ_exit ?_
          | refine blockQ_hit ?_
          | refine blockQ_miss rfl ?_
          | refine aL_nil ?_
          | (apply aL_step; (· exact True.intro); (· simp (disch := first | omega | (simp only [go_sem]; omega)) only [go_sem, get_miss, seval, reduceCtorEq, hgd]); (· simp (disch := first | omega | (simp only [go_sem]; omega)) only [go_sem, get_miss, seval, reduceCtorEq, hgd] <;> with_reducible rfl); (· simp only [go_sem] <;> with_reducible rfl))
          | (refine aL_skip ?_ (by simp only [go_sem] <;> with_reducible rfl) ?_; (· simp (disch := first | omega | (simp only [go_sem]; omega)) only [go_sem, get_miss, seval, reduceCtorEq, hgd]))
          | (apply aL_guardN; (· simp (disch := first | omega | (simp only [go_sem]; omega)) only [go_sem, get_miss, seval, reduceCtorEq, hgd] <;> with_reducible rfl); all_goals (intro h; first | (exfalso; omega) | (simp only [h, decide_true, decide_false, not_true, not_false_iff])))
          | (apply aL_guardP; (· simp (disch := first | omega | (simp only [go_sem]; omega)) only [go_sem, get_miss, seval, reduceCtorEq, hgd] <;> with_reducible rfl); all_goals (intro h; first | (exfalso; omega) | (simp only [h, decide_true, decide_false, not_true, not_false_iff])))
          | (refine aC_condT ?_ ?_; (· simp (disch := first | omega | (simp only [go_sem]; omega)) only [go_sem, get_miss, seval, reduceCtorEq, hgd]))
          | (refine aC_condF ?_ ?_; (· simp (disch := first | omega | (simp only [go_sem]; omega)) only [go_sem, get_miss, seval, reduceCtorEq, hgd]))
          | (refine aC_condP (by simp (disch := first | omega | (simp only [go_sem]; omega)) only [go_sem, get_miss, seval, reduceCtorEq, hgd] <;> with_reducible rfl) ?_ ?_ <;> (intro h; first | (exfalso; omega) | skip))
          | (apply aL_pure cxG (hd); (case hg => (simp (disch := first | omega | (simp only [go_sem]; omega)) only [go_sem, get_miss, seval, reduceCtorEq, hgd])); (case hx => (simp (disch := first | omega | (simp only [go_sem]; omega)) only [go_sem, get_miss, seval, reduceCtorEq, hgd] <;> with_reducible rfl)); (case ha => (simp (disch := first | omega | (simp only [go_sem]; omega)) only [go_sem, get_miss, seval, reduceCtorEq, hgd] <;> with_reducible rfl)); (case he => (simp only [go_sem] <;> with_reducible rfl)); (case hcl => (simp)); (case hf => (simp only [go_sem] <;> with_reducible rfl)))
          | (apply aL_pure cxG (ht); (case hg => (simp (disch := first | omega | (simp only [go_sem]; omega)) only [go_sem, get_miss, seval, reduceCtorEq, hgd])); (case hx => (simp (disch := first | omega | (simp only [go_sem]; omega)) only [go_sem, get_miss, seval, reduceCtorEq, hgd] <;> with_reducible rfl)); (case ha => (simp (disch := first | omega | (simp only [go_sem]; omega)) only [go_sem, get_miss, seval, reduceCtorEq, hgd] <;> with_reducible rfl)); (case he => (simp only [go_sem] <;> with_reducible rfl)); (case hcl => (simp)); (case hf => (simp only [go_sem] <;> with_reducible rfl)))
          | fail)
        all_goals try (first | exact True.intro | omega)
        all_goals try (simp (disch := first | omega | (simp only [go_sem]; omega)) only [go_sem, get_miss, seval, reduceCtorEq] <;> first | exact True.intro | omega)
        all_goals exact ⟨k + 1, ⟨by omega, hJ'⟩, Sub.of_all (by simp [Fr.get, htake]), by simp, by omega⟩
      · rw [if_neg hM] at hd
        rw [hno _ hmem hM]
        clear hyes hno
        have hgd : (wl ws).getD k .any = .int .u64 ((ws.getD k 0 : Nat) : Int) := getD_wl ws k _ hlt
        repeat' (first
          | refine aC_seq ?_
          | refine aC_reg rfl ?_
          | refine aC_block ?_
          | refine aC_skip ?_
          | refine aC_loop ?_
          | refine aC_scope ?_
          | refine scopeQ_normal ?_
          | refine scopeQ_exit ?_
          | refine scopeQ_ret ?_
          | refine aC_exit ?_
          | refine aC_ret ?_
          | refine thenQ_normal ?_
          | refine blockQ_normal ?_
          | refine thenQ_ret ?_
          | refine blockQ_ret ?_
          | refine thenQ_exit ?_
          | refine blockQ_hit ?_
          | refine blockQ_miss rfl ?_
          | refine aL_nil ?_
          | (apply aL_step; (· exact True.intro); (· simp (disch := first | omega | (simp only [go_sem]; omega)) only [go_sem, get_miss, seval, reduceCtorEq, hgd, eq_self_iff_true, decide_true, decide_false, Bool.not_true, Bool.not_false, Int.reduceEq, not_false_eq_true, not_true_eq_false]); (· simp (disch := first | omega | (simp only [go_sem]; omega)) only [go_sem, get_miss, seval, reduceCtorEq, hgd, eq_self_iff_true, decide_true, decide_false, Bool.not_true, Bool.not_false, Int.reduceEq, not_false_eq_true, not_true_eq_false] <;> with_reducible rfl); (· simp only [go_sem] <;> with_reducible rfl))
          | (refine aL_skip ?_ (by simp only [go_sem] <;> with_reducible rfl) ?_; (· simp (disch := first | omega | (simp only [go_sem]; omega)) only [go_sem, get_miss, seval, reduceCtorEq, hgd, eq_self_iff_true, decide_true, decide_false, Bool.not_true, Bool.not_false, Int.reduceEq, not_false_eq_true, not_true_eq_false]))
          | (apply aL_guardN; (· simp (disch := first | omega | (simp only [go_sem]; omega)) only [go_sem, get_miss, seval, reduceCtorEq, hgd, eq_self_iff_true, decide_true, decide_false, Bool.not_true, Bool.not_false, Int.reduceEq, not_false_eq_true, not_true_eq_false] <;> with_reducible rfl); all_goals (intro h; first | (exfalso; omega) | (simp only [h, decide_true, decide_false, not_true, not_false_iff])))
          | (apply aL_guardP; (· simp (disch := first | omega | (simp only [go_sem]; omega)) only [go_sem, get_miss, seval, reduceCtorEq, hgd, eq_self_iff_true, decide_true, decide_false, Bool.not_true, Bool.not_false, Int.reduceEq, not_false_eq_true, not_true_eq_false] <;> with_reducible rfl); all_goals (intro h; first | (exfalso; omega) | (simp only [h, decide_true, decide_false, not_true, not_false_iff])))
          | (refine aC_condT ?_ ?_; (· simp (disch := first | omega | (simp only [go_sem]; omega)) only [go_sem, get_miss, seval, reduceCtorEq, hgd, eq_self_iff_true, decide_true, decide_false, Bool.not_true, Bool.not_false, Int.reduceEq, not_false_eq_true, not_true_eq_false]))
          | (refine aC_condF ?_ ?_; (· simp (disch := first | omega | (simp only [go_sem]; omega)) only [go_sem, get_miss, seval, reduceCtorEq, hgd, eq_self_iff_true, decide_true, decide_false, Bool.not_true, Bool.not_false, Int.reduceEq, not_false_eq_true, not_true_eq_false]))
          | (refine aC_condP (by simp (disch := first | omega | (simp only [go_sem]; omega)) only [go_sem, get_miss, seval, reduceCtorEq, hgd, eq_self_iff_true, decide_true, decide_false, Bool.not_true, Bool.not_false, Int.reduceEq, not_false_eq_true, not_true_eq_false] <;> with_reducible rfl) ?_ ?_ <;> (intro h; first | (exfalso; omega) | skip))
          | (apply aL_pure cxG (hd); (case hg => (simp (disch := first | omega | (simp only [go_sem]; omega)) only [go_sem, get_miss, seval, reduceCtorEq, hgd, eq_self_iff_true, decide_true, decide_false, Bool.not_true, Bool.not_false, Int.reduceEq, not_false_eq_true, not_true_eq_false])); (case hx => (simp (disch := first | omega | (simp only [go_sem]; omega)) only [go_sem, get_miss, seval, reduceCtorEq, hgd, eq_self_iff_true, decide_true, decide_false, Bool.not_true, Bool.not_false, Int.reduceEq, not_false_eq_true, not_true_eq_false] <;> with_reducible rfl)); (case ha => (simp (disch := first | omega | (simp only [go_sem]; omega)) only [go_sem, get_miss, seval, reduceCtorEq, hgd, eq_self_iff_true, decide_true, decide_false, Bool.not_true, Bool.not_false, Int.reduceEq, not_false_eq_true, not_true_eq_false] <;> with_reducible rfl)); (case he => (simp only [go_sem] <;> with_reducible rfl)); (case hcl => (simp)); (case hf => (simp only [go_sem] <;> with_reducible rfl)))
          | fail)
        all_goals try (first | exact True.intro | omega)
        all_goals try (simp (disch := first | omega | (simp only [go_sem]; omega)) only [go_sem, get_miss, seval, reduceCtorEq] <;> first | exact True.intro | omega)
        all_goals try (simp (disch := first | omega | (simp only [go_sem]; omega)) only [go_sem, get_miss, seval, reduceCtorEq])
        all_goals try simp
    · have hk' : k = ws.length := by omega
      subst hk'
      rw [hyes (by rw [List.take_length] at hJ; exact hJ)]
      clear hyes hno
      rw [List.take_length]
      repeat' (first
        | refine aC_seq ?_
        | refine aC_reg rfl ?_
        | refine aC_block ?_
        | refine aC_skip ?_
        | refine aC_loop ?_
        | refine aC_scope ?_
        | refine scopeQ_normal ?_
        | refine scopeQ_exit ?_
        | refine scopeQ_ret ?_
        | refine aC_exit ?_
        | refine aC_ret ?_
        | refine thenQ_normal ?_
        | refine blockQ_normal ?_
        | refine thenQ_ret ?_
        | refine blockQ_ret ?_
        | refine thenQ_exit ?_
        | refine blockQ_hit ?_
        | refine blockQ_miss rfl ?_
        | refine aL_nil ?_
        | (apply aL_step; (· exact True.intro); (· simp (disch := first | omega | (simp only [go_sem]; omega)) only [go_sem, get_miss, seval, reduceCtorEq]); (· simp (disch := first | omega | (simp only [go_sem]; omega)) only [go_sem, get_miss, seval, reduceCtorEq] <;> with_reducible rfl); (· simp only [go_sem] <;> with_reducible rfl))
        | (refine aL_skip ?_ (by simp only [go_sem] <;> with_reducible rfl) ?_; (· simp (disch := first | omega | (simp only [go_sem]; omega)) only [go_sem, get_miss, seval, reduceCtorEq]))
        | (apply aL_guardN; (· simp (disch := first | omega | (simp only [go_sem]; omega)) only [go_sem, get_miss, seval, reduceCtorEq] <;> with_reducible rfl); all_goals (intro h; first | (exfalso; omega) | (simp only [h, decide_true, decide_false, not_true, not_false_iff])))
        | (apply aL_guardP; (· simp (disch := first | omega | (simp only [go_sem]; omega)) only [go_sem, get_miss, seval, reduceCtorEq] <;> with_reducible rfl); all_goals (intro h; first | (exfalso; omega) | (simp only [h, decide_true, decide_false, not_true, not_false_iff])))
        | (refine aC_condT ?_ ?_; (· simp (disch := first | omega | (simp only [go_sem]; omega)) only [go_sem, get_miss, seval, reduceCtorEq]))
        | (refine aC_condF ?_ ?_; (· simp (disch := first | omega | (simp only [go_sem]; omega)) only [go_sem, get_miss, seval, reduceCtorEq]))
        | (refine aC_condP (by simp (disch := first | omega | (simp only [go_sem]; omega)) only [go_sem, get_miss, seval, reduceCtorEq] <;> with_reducible rfl) ?_ ?_ <;> (intro h; first | (exfalso; omega) | skip))
        | fail)
      all_goals try (first | exact True.intro | omega)
      all_goals try (simp (disch := first | omega | (simp only [go_sem]; omega)) only [go_sem, get_miss, seval, reduceCtorEq] <;> first | exact True.intro | omega)
      all_goals try (simp (disch := first | omega | (simp only [go_sem]; omega)) only [go_sem, get_miss, seval, reduceCtorEq])
      all_goals try simp
  all_goals trivial
end
end Go.Am
