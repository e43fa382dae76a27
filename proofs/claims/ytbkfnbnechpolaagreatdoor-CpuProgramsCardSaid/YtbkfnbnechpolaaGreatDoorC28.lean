/- The document's number. -/
import Derived.Test.YtbkfnbnechpolaaGreatDoorC25
set_option linter.unusedVariables false
set_option linter.unusedSimpArgs false
namespace Go.Am
open Go Go.Proofs
set_option linter.unusedSimpArgs false
set_option linter.unusedVariables false
set_option maxHeartbeats 8000000
set_option maxRecDepth 100000
attribute [local irreducible] aC aL thenQ blockQ scopeQ ALoop AWp

def numF : Bool → Nat → Bool → List UInt8 → Nat × Bool
  | _, n, neg, [] => (n, neg)
  | f, n, neg, c :: r => if f = true ∧ c.toNat = 45 then numF false n true r else if 48 ≤ c.toNat ∧ c.toNat ≤ 57 then numF false (n * 10 + (c.toNat - 48)) neg r else numF false n neg r
def numR (s : List UInt8) : Int := if (numF true 0 false (s.take 12)).2 = true then -((numF true 0 false (s.take 12)).1 : Int) else ((numF true 0 false (s.take 12)).1 : Int)

theorem ref_number (s : List UInt8) (hs : s.length ≤ 20000) : APure cx 39 [.str s] (.int .i64 (numR s)) := by
  have hT : (s.take 12).length ≤ 12 ∧ (s.take 12).length ≤ s.length ∧ ((s.take 12).length = 12 ∨ (s.take 12).length = s.length) := by rw [List.length_take]; omega
  refine pure_fn cxOk Tryz.func39 (by kernel_rfl) (fun _ => false) (fun _ => none) (by kernel_rfl) (Nat.le_of_ble_eq_true (by kernel_rfl)) ?_
  dsimp only [LB, Tryz.f39, lite, nextOf, Option.isNone, Bool.not_true, Bool.not_false, Bool.and_true, Bool.true_and, Bool.false_and, Bool.and_self, Bool.false_eq_true, if_false, if_true, ↓reduceIte, liteO, List.map, Option.map, frame0, List.zipIdx, Nat.reduceAdd]
  try simp only [List.getElem?_toArray, List.getElem?_cons_succ, List.getElem?_cons_zero, Option.bind_some]
  repeat' (first
    | refine aC_seq ?_
    | refine aC_reg rfl ?_
    | refine aC_block ?_
    | refine aC_skip ?_
    | refine aC_loop ?_
    | refine aC_scope ?_
    | refine scopeQ_normal ?_
    | refine scopeQ_exit ?_
    | refine scopeQ_ret ?_
    | refine aC_exit ?_
    | refine aC_ret ?_
    | refine thenQ_normal ?_
    | refine blockQ_normal ?_
    | refine thenQ_ret ?_
    | refine blockQ_ret ?_
    | refine thenQ_exit ?_
    | refine blockQ_hit ?_
    | refine blockQ_miss rfl ?_
    | refine aL_nil ?_
    | (apply aL_step; (· exact True.intro); (· simp (disch := first | omega | (simp only [go_sem]; omega)) only [go_sem, get_miss, seval, reduceCtorEq]); (· simp (disch := first | omega | (simp only [go_sem]; omega)) only [go_sem, get_miss, seval, reduceCtorEq] <;> with_reducible rfl); (· simp only [go_sem] <;> with_reducible rfl))
    | (refine aL_skip ?_ (by simp only [go_sem] <;> with_reducible rfl) ?_; (· simp (disch := first | omega | (simp only [go_sem]; omega)) only [go_sem, get_miss, seval, reduceCtorEq]))
    | (apply aL_guardN; (· simp (disch := first | omega | (simp only [go_sem]; omega)) only [go_sem, get_miss, seval, reduceCtorEq] <;> with_reducible rfl); all_goals (intro h; first | (exfalso; omega) | (simp only [h, decide_true, decide_false, not_true, not_false_iff])))
    | (apply aL_guardP; (· simp (disch := first | omega | (simp only [go_sem]; omega)) only [go_sem, get_miss, seval, reduceCtorEq] <;> with_reducible rfl); all_goals (intro h; first | (exfalso; omega) | (simp only [h, decide_true, decide_false, not_true, not_false_iff])))
    | (refine aC_condT ?_ ?_; (· simp (disch := first | omega | (simp only [go_sem]; omega)) only [go_sem, get_miss, seval, reduceCtorEq]))
    | (refine aC_condF ?_ ?_; (· simp (disch := first | omega | (simp only [go_sem]; omega)) only [go_sem, get_miss, seval, reduceCtorEq]))
    | (refine aC_condP (by simp (disch := first | omega | (simp only [go_sem]; omega)) only [go_sem, get_miss, seval, reduceCtorEq] <;> with_reducible rfl) ?_ ?_ <;> (intro h; first | (exfalso; omega) | skip))
    | fail)
  · refine loop_rule (cxOk.wp _ _) (σ := Nat × Nat × Bool) (fun x => [(3, .int .i64 x.2.1), (4, .bool x.2.2), (5, .int .i64 x.1), (0, .str s)])
      (fun x => []) (fun x => 12 - x.1) (fun x => x.1 ≤ (s.take 12).length ∧ x.2.1 < 10 ^ x.1 ∧ numF true 0 false (s.take 12) = numF (decide (x.1 = 0)) x.2.1 x.2.2 ((s.take 12).drop x.1))
      (0, 0, false) (GStep.refl _ _) ⟨⟨Nat.zero_le _, by decide, by simp⟩, Sub.of_all (by simp [Fr.get, frame0]), rfl⟩ ?_
    rintro ⟨i, n, neg⟩ ⟨h1, h2, h3⟩
    simp only at h1 h2 h3 ⊢
    by_cases hlt : i < (s.take 12).length
    · have hp : (10 : Nat) ^ i ≤ 10 ^ 11 := Nat.pow_le_pow_right (by decide) (by omega)
      have hn : n < 100000000000 := Nat.lt_of_lt_of_le h2 hp
      have hils : i < s.length := by omega
      have hd : (s.take 12).drop i = s[i] :: (s.take 12).drop (i + 1) := by rw [List.drop_eq_getElem_cons hlt]; simp
      have hg : s.getD i 0 = s[i] := by simp [List.getD, hils]
      have hk : s[i].toNat < 256 := s[i].toNat_lt
      rw [hd] at h3
      simp only [numF, decide_eq_true_eq] at h3
      have hp1 : (10 : Nat) ^ (i + 1) = 10 ^ i * 10 := Nat.pow_succ _ _
      have hi12 : i < 12 := by omega
      by_cases hi0 : i = 0
      · subst hi0
        generalize s[0] = c at *
        simp only [Nat.zero_add] at *
        by_cases hA : c.toNat = 45
        · rw [if_pos ⟨trivial, hA⟩] at h3
          repeat' (first
            | refine aC_seq ?_
            | refine aC_reg rfl ?_
            | refine aC_block ?_
            | refine aC_skip ?_
            | refine aC_loop ?_
            | refine aC_scope ?_
            | refine scopeQ_normal ?_
            | refine scopeQ_exit ?_
            | refine scopeQ_ret ?_
            | refine aC_exit ?_
            | refine aC_ret ?_
            | refine thenQ_normal ?_
            | refine blockQ_normal ?_
            | refine thenQ_ret ?_
            | refine blockQ_ret ?_
            | refine thenQ_exit ?_
            | refine blockQ_hit ?_
            | refine blockQ_miss rfl ?_
            | refine aL_nil ?_
            | (apply aL_step; (· exact True.intro); (· simp (disch := first | omega | (simp only [go_sem]; omega)) only [go_sem, get_miss, seval, reduceCtorEq, hg]); (· simp (disch := first | omega | (simp only [go_sem]; omega)) only [go_sem, get_miss, seval, reduceCtorEq, hg] <;> with_reducible rfl); (· simp only [go_sem] <;> with_reducible rfl))
            | (refine aL_skip ?_ (by simp only [go_sem] <;> with_reducible rfl) ?_; (· simp (disch := first | omega | (simp only [go_sem]; omega)) only [go_sem, get_miss, seval, reduceCtorEq, hg]))
            | (apply aL_guardN; (· simp (disch := first | omega | (simp only [go_sem]; omega)) only [go_sem, get_miss, seval, reduceCtorEq, hg] <;> with_reducible rfl); all_goals (intro h; first | (exfalso; omega) | (simp only [h, decide_true, decide_false, not_true, not_false_iff])))
            | (apply aL_guardP; (· simp (disch := first | omega | (simp only [go_sem]; omega)) only [go_sem, get_miss, seval, reduceCtorEq, hg] <;> with_reducible rfl); all_goals (intro h; first | (exfalso; omega) | (simp only [h, decide_true, decide_false, not_true, not_false_iff])))
            | (refine aC_condT ?_ ?_; (· simp (disch := first | omega | (simp only [go_sem]; omega)) only [go_sem, get_miss, seval, reduceCtorEq, hg]))
            | (refine aC_condF ?_ ?_; (· simp (disch := first | omega | (simp only [go_sem]; omega)) only [go_sem, get_miss, seval, reduceCtorEq, hg]))
            | (refine aC_condP (by simp (disch := first | omega | (simp only [go_sem]; omega)) only [go_sem, get_miss, seval, reduceCtorEq, hg] <;> with_reducible rfl) ?_ ?_ <;> (intro h; first | (exfalso; omega) | skip))
            | fail)
          all_goals try (first | exact True.intro | omega)
          all_goals try (simp (disch := first | omega | (simp only [go_sem]; omega)) only [go_sem, get_miss, seval, reduceCtorEq] <;> first | exact True.intro | omega)
          all_goals exact ⟨(1, n, true), ⟨by simp; omega, by simp; omega, by simpa using h3⟩, Sub.of_all (by simp [Fr.get]), rfl, by simp⟩
        · rw [if_neg (fun k => hA k.2)] at h3
          by_cases hB : 48 ≤ c.toNat ∧ c.toNat ≤ 57
          · rw [if_pos hB] at h3
            obtain ⟨hb1, hb2⟩ := hB
            have e : ((n * 10 + (c.toNat - 48) : Nat) : Int) = (n : Int) * 10 + ((c.toNat : Int) - 48) := by omega
            repeat' (first
              | refine aC_seq ?_
              | refine aC_reg rfl ?_
              | refine aC_block ?_
              | refine aC_skip ?_
              | refine aC_loop ?_
              | refine aC_scope ?_
              | refine scopeQ_normal ?_
              | refine scopeQ_exit ?_
              | refine scopeQ_ret ?_
              | refine aC_exit ?_
              | refine aC_ret ?_
              | refine thenQ_normal ?_
              | refine blockQ_normal ?_
              | refine thenQ_ret ?_
              | refine blockQ_ret ?_
              | refine thenQ_exit ?_
              | refine blockQ_hit ?_
              | refine blockQ_miss rfl ?_
              | refine aL_nil ?_
              | (apply aL_step; (· exact True.intro); (· simp (disch := first | omega | (simp only [go_sem]; omega)) only [go_sem, get_miss, seval, reduceCtorEq, hg]); (· simp (disch := first | omega | (simp only [go_sem]; omega)) only [go_sem, get_miss, seval, reduceCtorEq, hg] <;> with_reducible rfl); (· simp only [go_sem] <;> with_reducible rfl))
              | (refine aL_skip ?_ (by simp only [go_sem] <;> with_reducible rfl) ?_; (· simp (disch := first | omega | (simp only [go_sem]; omega)) only [go_sem, get_miss, seval, reduceCtorEq, hg]))
              | (apply aL_guardN; (· simp (disch := first | omega | (simp only [go_sem]; omega)) only [go_sem, get_miss, seval, reduceCtorEq, hg] <;> with_reducible rfl); all_goals (intro h; first | (exfalso; omega) | (simp only [h, decide_true, decide_false, not_true, not_false_iff])))
              | (apply aL_guardP; (· simp (disch := first | omega | (simp only [go_sem]; omega)) only [go_sem, get_miss, seval, reduceCtorEq, hg] <;> with_reducible rfl); all_goals (intro h; first | (exfalso; omega) | (simp only [h, decide_true, decide_false, not_true, not_false_iff])))
              | (refine aC_condT ?_ ?_; (· simp (disch := first | omega | (simp only [go_sem]; omega)) only [go_sem, get_miss, seval, reduceCtorEq, hg]))
              | (refine aC_condF ?_ ?_; (· simp (disch := first | omega | (simp only [go_sem]; omega)) only [go_sem, get_miss, seval, reduceCtorEq, hg]))
              | (refine aC_condP (by simp (disch := first | omega | (simp only [go_sem]; omega)) only [go_sem, get_miss, seval, reduceCtorEq, hg] <;> with_reducible rfl) ?_ ?_ <;> (intro h; first | (exfalso; omega) | skip))
              | fail)
            all_goals try (first | exact True.intro | omega)
            all_goals try (simp (disch := first | omega | (simp only [go_sem]; omega)) only [go_sem, get_miss, seval, reduceCtorEq] <;> first | exact True.intro | omega)
            all_goals exact ⟨(1, n * 10 + (c.toNat - 48), neg), ⟨by simp; omega, by simp; omega, by simpa using h3⟩, Sub.of_all (by simp [Fr.get, e]), rfl, by simp⟩
          · rw [if_neg hB] at h3
            have hB' : c.toNat < 48 ∨ 57 < c.toNat := by omega
            repeat' (first
              | refine aC_seq ?_
              | refine aC_reg rfl ?_
              | refine aC_block ?_
              | refine aC_skip ?_
              | refine aC_loop ?_
              | refine aC_scope ?_
              | refine scopeQ_normal ?_
              | refine scopeQ_exit ?_
              | refine scopeQ_ret ?_
              | refine aC_exit ?_
              | refine aC_ret ?_
              | refine thenQ_normal ?_
              | refine blockQ_normal ?_
              | refine thenQ_ret ?_
              | refine blockQ_ret ?_
              | refine thenQ_exit ?_
              | refine blockQ_hit ?_
              | refine blockQ_miss rfl ?_
              | refine aL_nil ?_
              | (apply aL_step; (· exact True.intro); (· simp (disch := first | omega | (simp only [go_sem]; omega)) only [go_sem, get_miss, seval, reduceCtorEq, hg]); (· simp (disch := first | omega | (simp only [go_sem]; omega)) only [go_sem, get_miss, seval, reduceCtorEq, hg] <;> with_reducible rfl); (· simp only [go_sem] <;> with_reducible rfl))
              | (refine aL_skip ?_ (by simp only [go_sem] <;> with_reducible rfl) ?_; (· simp (disch := first | omega | (simp only [go_sem]; omega)) only [go_sem, get_miss, seval, reduceCtorEq, hg]))
              | (apply aL_guardN; (· simp (disch := first | omega | (simp only [go_sem]; omega)) only [go_sem, get_miss, seval, reduceCtorEq, hg] <;> with_reducible rfl); all_goals (intro h; first | (exfalso; omega) | (simp only [h, decide_true, decide_false, not_true, not_false_iff])))
              | (apply aL_guardP; (· simp (disch := first | omega | (simp only [go_sem]; omega)) only [go_sem, get_miss, seval, reduceCtorEq, hg] <;> with_reducible rfl); all_goals (intro h; first | (exfalso; omega) | (simp only [h, decide_true, decide_false, not_true, not_false_iff])))
              | (refine aC_condT ?_ ?_; (· simp (disch := first | omega | (simp only [go_sem]; omega)) only [go_sem, get_miss, seval, reduceCtorEq, hg]))
              | (refine aC_condF ?_ ?_; (· simp (disch := first | omega | (simp only [go_sem]; omega)) only [go_sem, get_miss, seval, reduceCtorEq, hg]))
              | (refine aC_condP (by simp (disch := first | omega | (simp only [go_sem]; omega)) only [go_sem, get_miss, seval, reduceCtorEq, hg] <;> with_reducible rfl) ?_ ?_ <;> (intro h; first | (exfalso; omega) | skip))
              | fail)
            all_goals try (first | exact True.intro | omega)
            all_goals try (simp (disch := first | omega | (simp only [go_sem]; omega)) only [go_sem, get_miss, seval, reduceCtorEq] <;> first | exact True.intro | omega)
            all_goals exact ⟨(1, n, neg), ⟨by simp; omega, by simp; omega, by simpa using h3⟩, Sub.of_all (by simp [Fr.get]), rfl, by simp⟩
      · rw [if_neg (fun k => hi0 k.1)] at h3
        generalize s[i] = c at *
        by_cases hB : 48 ≤ c.toNat ∧ c.toNat ≤ 57
        · rw [if_pos hB] at h3
          obtain ⟨hb1, hb2⟩ := hB
          have e : ((n * 10 + (c.toNat - 48) : Nat) : Int) = (n : Int) * 10 + ((c.toNat : Int) - 48) := by omega
          repeat' (first
            | refine aC_seq ?_
            | refine aC_reg rfl ?_
            | refine aC_block ?_
            | refine aC_skip ?_
            | refine aC_loop ?_
            | refine aC_scope ?_
            | refine scopeQ_normal ?_
            | refine scopeQ_exit ?_
            | refine scopeQ_ret ?_
            | refine aC_exit ?_
            | refine aC_ret ?_
            | refine thenQ_normal ?_
            | refine blockQ_normal ?_
            | refine thenQ_ret ?_
            | refine blockQ_ret ?_
            | refine thenQ_exit ?_
            | refine blockQ_hit ?_
            | refine blockQ_miss rfl ?_
            | refine aL_nil ?_
            | (apply aL_step; (· exact True.intro); (· simp (disch := first | omega | (simp only [go_sem]; omega)) only [go_sem, get_miss, seval, reduceCtorEq, hg]); (· simp (disch := first | omega | (simp only [go_sem]; omega)) only [go_sem, get_miss, seval, reduceCtorEq, hg] <;> with_reducible rfl); (· simp only [go_sem] <;> with_reducible rfl))
            | (refine aL_skip ?_ (by simp only [go_sem] <;> with_reducible rfl) ?_; (· simp (disch := first | omega | (simp only [go_sem]; omega)) only [go_sem, get_miss, seval, reduceCtorEq, hg]))
            | (apply aL_guardN; (· simp (disch := first | omega | (simp only [go_sem]; omega)) only [go_sem, get_miss, seval, reduceCtorEq, hg] <;> with_reducible rfl); all_goals (intro h; first | (exfalso; omega) | (simp only [h, decide_true, decide_false, not_true, not_false_iff])))
            | (apply aL_guardP; (· simp (disch := first | omega | (simp only [go_sem]; omega)) only [go_sem, get_miss, seval, reduceCtorEq, hg] <;> with_reducible rfl); all_goals (intro h; first | (exfalso; omega) | (simp only [h, decide_true, decide_false, not_true, not_false_iff])))
            | (refine aC_condT ?_ ?_; (· simp (disch := first | omega | (simp only [go_sem]; omega)) only [go_sem, get_miss, seval, reduceCtorEq, hg]))
            | (refine aC_condF ?_ ?_; (· simp (disch := first | omega | (simp only [go_sem]; omega)) only [go_sem, get_miss, seval, reduceCtorEq, hg]))
            | (refine aC_condP (by simp (disch := first | omega | (simp only [go_sem]; omega)) only [go_sem, get_miss, seval, reduceCtorEq, hg] <;> with_reducible rfl) ?_ ?_ <;> (intro h; first | (exfalso; omega) | skip))
            | fail)
          all_goals try (first | exact True.intro | omega)
          all_goals try (simp (disch := first | omega | (simp only [go_sem]; omega)) only [go_sem, get_miss, seval, reduceCtorEq] <;> first | exact True.intro | omega)
          all_goals exact ⟨(i + 1, n * 10 + (c.toNat - 48), neg), ⟨by simp; omega, by simp; omega, by simpa using h3⟩, Sub.of_all (by simp [Fr.get, e]), rfl, by simp; omega⟩
        · rw [if_neg hB] at h3
          have hB' : c.toNat < 48 ∨ 57 < c.toNat := by omega
          repeat' (first
            | refine aC_seq ?_
            | refine aC_reg rfl ?_
            | refine aC_block ?_
            | refine aC_skip ?_
            | refine aC_loop ?_
            | refine aC_scope ?_
            | refine scopeQ_normal ?_
            | refine scopeQ_exit ?_
            | refine scopeQ_ret ?_
            | refine aC_exit ?_
            | refine aC_ret ?_
            | refine thenQ_normal ?_
            | refine blockQ_normal ?_
            | refine thenQ_ret ?_
            | refine blockQ_ret ?_
            | refine thenQ_exit ?_
            | refine blockQ_hit ?_
            | refine blockQ_miss rfl ?_
            | refine aL_nil ?_
            | (apply aL_step; (· exact True.intro); (· simp (disch := first | omega | (simp only [go_sem]; omega)) only [go_sem, get_miss, seval, reduceCtorEq, hg]); (· simp (disch := first | omega | (simp only [go_sem]; omega)) only [go_sem, get_miss, seval, reduceCtorEq, hg] <;> with_reducible rfl); (· simp only [go_sem] <;> with_reducible rfl))
            | (refine aL_skip ?_ (by simp only [go_sem] <;> with_reducible rfl) ?_; (· simp (disch := first | omega | (simp only [go_sem]; omega)) only [go_sem, get_miss, seval, reduceCtorEq, hg]))
            | (apply aL_guardN; (· simp (disch := first | omega | (simp only [go_sem]; omega)) only [go_sem, get_miss, seval, reduceCtorEq, hg] <;> with_reducible rfl); all_goals (intro h; first | (exfalso; omega) | (simp only [h, decide_true, decide_false, not_true, not_false_iff])))
            | (apply aL_guardP; (· simp (disch := first | omega | (simp only [go_sem]; omega)) only [go_sem, get_miss, seval, reduceCtorEq, hg] <;> with_reducible rfl); all_goals (intro h; first | (exfalso; omega) | (simp only [h, decide_true, decide_false, not_true, not_false_iff])))
            | (refine aC_condT ?_ ?_; (· simp (disch := first | omega | (simp only [go_sem]; omega)) only [go_sem, get_miss, seval, reduceCtorEq, hg]))
            | (refine aC_condF ?_ ?_; (· simp (disch := first | omega | (simp only [go_sem]; omega)) only [go_sem, get_miss, seval, reduceCtorEq, hg]))
            | (refine aC_condP (by simp (disch := first | omega | (simp only [go_sem]; omega)) only [go_sem, get_miss, seval, reduceCtorEq, hg] <;> with_reducible rfl) ?_ ?_ <;> (intro h; first | (exfalso; omega) | skip))
            | fail)
          all_goals try (first | exact True.intro | omega)
          all_goals try (simp (disch := first | omega | (simp only [go_sem]; omega)) only [go_sem, get_miss, seval, reduceCtorEq] <;> first | exact True.intro | omega)
          all_goals exact ⟨(i + 1, n, neg), ⟨by simp; omega, by simp; omega, by simpa using h3⟩, Sub.of_all (by simp [Fr.get]), rfl, by simp; omega⟩
    · have hi : i = (s.take 12).length := by omega
      have hn : n < 1000000000000 := Nat.lt_of_lt_of_le h2 (Nat.pow_le_pow_right (n := 10) (by decide) (by omega : i ≤ 12))
      rw [List.drop_eq_nil_of_le (by omega)] at h3
      simp only [numF] at h3
      have hr : numR s = if neg = true then -(n : Int) else (n : Int) := by unfold numR; rw [h3]
      rw [hr]
      have hcase : i = 12 ∨ i = s.length := by omega
      cases neg
      all_goals
      repeat' (first
        | refine aC_seq ?_
        | refine aC_reg rfl ?_
        | refine aC_block ?_
        | refine aC_skip ?_
        | refine aC_loop ?_
        | refine aC_scope ?_
        | refine scopeQ_normal ?_
        | refine scopeQ_exit ?_
        | refine scopeQ_ret ?_
        | refine aC_exit ?_
        | refine aC_ret ?_
        | refine thenQ_normal ?_
        | refine blockQ_normal ?_
        | refine thenQ_ret ?_
        | refine blockQ_ret ?_
        | refine thenQ_exit ?_
        | refine blockQ_hit ?_
        | refine blockQ_miss rfl ?_
        | refine aL_nil ?_
        | (apply aL_step; (· exact True.intro); (· simp (disch := first | omega | (simp only [go_sem]; omega)) only [go_sem, get_miss, seval, reduceCtorEq]); (· simp (disch := first | omega | (simp only [go_sem]; omega)) only [go_sem, get_miss, seval, reduceCtorEq] <;> with_reducible rfl); (· simp only [go_sem] <;> with_reducible rfl))
        | (refine aL_skip ?_ (by simp only [go_sem] <;> with_reducible rfl) ?_; (· simp (disch := first | omega | (simp only [go_sem]; omega)) only [go_sem, get_miss, seval, reduceCtorEq]))
        | (apply aL_guardN; (· simp (disch := first | omega | (simp only [go_sem]; omega)) only [go_sem, get_miss, seval, reduceCtorEq] <;> with_reducible rfl); all_goals (intro h; first | (exfalso; omega) | (simp only [h, decide_true, decide_false, not_true, not_false_iff])))
        | (apply aL_guardP; (· simp (disch := first | omega | (simp only [go_sem]; omega)) only [go_sem, get_miss, seval, reduceCtorEq] <;> with_reducible rfl); all_goals (intro h; first | (exfalso; omega) | (simp only [h, decide_true, decide_false, not_true, not_false_iff])))
        | (refine aC_condT ?_ ?_; (· simp (disch := first | omega | (simp only [go_sem]; omega)) only [go_sem, get_miss, seval, reduceCtorEq]))
        | (refine aC_condF ?_ ?_; (· simp (disch := first | omega | (simp only [go_sem]; omega)) only [go_sem, get_miss, seval, reduceCtorEq]))
        | (refine aC_condP (by simp (disch := first | omega | (simp only [go_sem]; omega)) only [go_sem, get_miss, seval, reduceCtorEq] <;> with_reducible rfl) ?_ ?_ <;> (intro h; first | (exfalso; omega) | skip))
        | fail)
      all_goals try (first | exact True.intro | omega)
      all_goals try (simp (disch := first | omega | (simp only [go_sem]; omega)) only [go_sem, get_miss, seval, reduceCtorEq] <;> first | exact True.intro | omega)
      all_goals try (simp (disch := first | omega | (simp only [go_sem]; omega)) only [go_sem, get_miss, seval, reduceCtorEq])
      all_goals try simp
  all_goals trivial

theorem numF_dig : ∀ (l : List UInt8) (f : Bool) (n : Nat) (neg : Bool), (∀ b ∈ l, 48 ≤ b.toNat ∧ b.toNat ≤ 57) → numF f n neg l = (l.foldl (fun a c => a * 10 + (c.toNat - 48)) n, neg)
  | [], f, n, neg, _ => rfl
  | c :: l, f, n, neg, h => by
    have hc := h c (by simp)
    simp only [numF]
    rw [if_neg (by omega), if_pos hc, numF_dig l _ _ _ fun b hb => h b (List.mem_cons_of_mem _ hb)]
    rfl
theorem val_dec : ∀ u : Nat, (Lib.decDigits u).foldl (fun a c => a * 10 + (c.toNat - 48)) 0 = u := by
  intro u
  induction u using Nat.strongRecOn with
  | _ u ih =>
    rw [Lib.decDigits]
    split
    · next h =>
      simp
      omega
    · next h =>
      rw [List.foldl_append, ih (u / 10) (by omega)]
      simp only [List.foldl_cons, List.foldl_nil]
      rw [ofNat_toNat8 (48 + u % 10) (by omega)]
      omega
theorem itoa_len32 (n : Int) (h0 : -2147483648 ≤ n) (h1 : n ≤ 2147483647) : (Lib.itoa n).length ≤ 11 := by
  unfold Lib.itoa
  split
  · rw [List.length_cons, Lib.decDigits_length]
    have := nDigits_le 9 n.natAbs (by show n.natAbs < 10000000000; omega)
    omega
  · rw [Lib.decDigits_length]
    have := nDigits_le 9 n.toNat (by show n.toNat < 10000000000; omega)
    omega
theorem numR_itoa (n : Int) (h0 : -2147483648 ≤ n) (h1 : n ≤ 2147483647) : numR (Lib.itoa n) = n := by
  unfold numR
  rw [List.take_of_length_le (by have := itoa_len32 n h0 h1; omega)]
  unfold Lib.itoa
  by_cases hn : n < 0
  · rw [if_pos hn]
    have e : numF true 0 false (45 :: Lib.decDigits n.natAbs) = (n.natAbs, true) := by
      simp only [numF]
      rw [if_pos ⟨trivial, rfl⟩, numF_dig _ _ _ _ (dec_all _).1, val_dec]
    rw [e]
    simp only [if_true]
    omega
  · rw [if_neg hn, numF_dig _ _ _ _ (dec_all _).1, val_dec]
    simp only [Bool.false_eq_true, if_false]
    omega

/-- What the document's parts say of an operation. -/
def flagR (op : Int) (k : Nat) : Prop := if k = 0 then Has op 100 else if k = 1 then Has op 97 else if k = 2 then Has op 98 else Has op 105
instance (op : Int) (k : Nat) : Decidable (flagR op k) := by unfold flagR; infer_instance
def setQ (k : Nat) (n : Int) (q : Int × Int × Int × Int) : Int × Int × Int × Int :=
  if k = 0 then (n, q.2.1, q.2.2.1, q.2.2.2) else if k = 1 then (q.1, n, q.2.2.1, q.2.2.2) else if k = 2 then (q.1, q.2.1, n, q.2.2.2) else (q.1, q.2.1, q.2.2.1, n)
def wordR (k : Nat) (x : List UInt8) : Int := if k < 3 ∧ 0 < x.length then numR (x.drop 1) else numR x
def refK (ps : List (List UInt8)) (op : Int) : Nat → Nat × Int × Int × Int × Int
  | 0 => (1, 0, 0, 0, 0)
  | k + 1 => if flagR op k ∧ (refK ps op k).1 < ps.length then ((refK ps op k).1 + 1, setQ k (wordR k (ps.getD (refK ps op k).1 [])) (refK ps op k).2) else refK ps op k

theorem refK_at (ps : List (List UInt8)) (op : Int) : ∀ k, (refK ps op k).1 ≤ 1 + k
  | 0 => Nat.le_refl _
  | k + 1 => by
    have := refK_at ps op k
    simp only [refK]
    split
    · simp only; omega
    · omega

theorem spA_sizes : ∀ (s cur : List UInt8), ∀ x ∈ spA cur s, x.length ≤ cur.length + s.length
  | [], cur, x, h => by
    simp only [spA, List.mem_singleton] at h
    subst h
    simp
  | c :: r, cur, x, h => by
    simp only [spA] at h
    split at h
    · rcases List.mem_cons.1 h with rfl | h
      · simp
      · have := spA_sizes r [] x h
        simp only [List.length_nil, List.length_cons] at this ⊢
        omega
    · have := spA_sizes r _ x h
      simp only [List.length_append, List.length_cons, List.length_nil] at this ⊢
      omega

theorem ins_refs {s : List UInt8} {op d a b i : Int} (h : IsIns s op d a b i) : (refK (spA [] s) op 4).2 = (d, a, b, i) ∧ s.length ≤ 60 := by
  obtain ⟨hm, rfl⟩ := h
  obtain ⟨ho, hd, ha, hb, hi⟩ := may_range hm
  have no : ∀ n, (32 : UInt8) ∉ Lib.itoa n := fun n => itoa_no n 32 (by decide)
  have hps : spA [] (txt op d a b i) = (frm op).1 :: (frm op).2.map (partW (Lib.itoa d) (Lib.itoa a) (Lib.itoa b) (Lib.itoa i)) := spA_txt _ _ _ _ (no d) (no a) (no b) (no i) _ _ (frm_no ho).1
  rw [hps]
  have nd := numR_itoa d (by omega) (by omega)
  have na := numR_itoa a (by omega) (by omega)
  have nb := numR_itoa b (by omega) (by omega)
  have ni := numR_itoa i (by omega) (by omega)
  have ld := itoa_len32 d (by omega) (by omega)
  have la := itoa_len32 a (by omega) (by omega)
  have lb := itoa_len32 b (by omega) (by omega)
  have li := itoa_len32 i (by omega) (by omega)
  obtain ⟨_, md, ma, mb, _, _, mi⟩ := hm
  unfold RegOk at md ma mb
  rcases ops_cases op with (rfl | rfl | rfl | rfl | rfl | rfl | rfl | rfl | rfl | rfl | rfl | rfl | rfl | rfl | rfl | rfl | rfl) | h'
  iterate 17
    simp [frm, Lib.indexByte] at md ma mb mi
    refine ⟨?_, ?_⟩
    · simp [frm, refK, flagR, Has, Lib.indexByte, setQ, wordR, partW, nd, na, nb, ni, List.getD]
      try omega
    · simp [txt, frm, txL]
      try omega
  omega
end Go.Am
