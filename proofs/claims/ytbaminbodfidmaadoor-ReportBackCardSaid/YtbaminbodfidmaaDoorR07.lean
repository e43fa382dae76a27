/- The document's Untext. -/
import Derived.Test.YtbaminbodfidmaaDoorR06
set_option linter.unusedVariables false
set_option linter.unusedSimpArgs false
namespace Go.Am
open Go Go.Proofs
set_option linter.unusedSimpArgs false
set_option linter.unusedVariables false
set_option maxHeartbeats 8000000
set_option maxRecDepth 100000
section
attribute [local irreducible] aC aL thenQ blockQ scopeQ ALoop AWp rst rnum

theorem digc_hexl {m : List UInt8} (h : m.length = 32) : digc (hexl m) = m := by
  unfold digc
  simp only [(hexl_good m).1, (hexl_good m).2.1, if_true, h]
  rw [List.take_of_length_le (by omega)]
  simp

theorem ref_Untext (s : List UInt8) (hs : s.length ≤ 1048576) (r : AVal) (hr : (∃ n m c, IsRep s n m c ∧ r = .tup [.agg (repc n m c), .bool true]) ∨ ((∀ n m c, ¬ IsRep s n m c) ∧ r = .tup [.agg repZ, .bool false])) :
    APure cx 13 [.str s] r := by
  have hcut := ref_cut18 s hs
  obtain ⟨P, hP⟩ : ∃ P, P = parts s [32] := ⟨_, rfl⟩
  have hsz : ∀ k, (P.getD k []).length ≤ s.length := fun k => by
    by_cases hk : k < P.length
    · have : P.getD k [] = P[k] := by simp [List.getD, hk]
      rw [this]
      exact parts_short s _ (by rw [← hP]; exact List.getElem_mem hk)
    · simp [List.getD, Nat.le_of_not_lt hk]
  rw [← hP] at hcut
  have hd3 := ref_digest (P.getD 3 []) (by have := hsz 3; omega)
  have hd5 := ref_digest (P.getD 5 []) (by have := hsz 5; omega)
  have hs1 := hsz 1
  have hM := digc_length (P.getD 3 [])
  have hC := digc_length (P.getD 5 [])
  have hV := rnum_lt (P.getD 1 [])
  have hIs : ∀ n m c', IsRep s n m c' → (s.length ≤ 250 ∧ P.length = 6) ∧ rnum (P.getD 1 []) = n ∧ digc (P.getD 3 []) = m ∧ digc (P.getD 5 []) = c' ∧ (goodp (P.getD 3 []) = true ∧ (unpre (P.getD 3 [])).length = 32) ∧ (goodp (P.getD 5 []) = true ∧ (unpre (P.getD 5 [])).length = 32) := by
    intro n m c' h
    obtain ⟨x0, _, x1, ⟨x3, x4⟩, x5, x6⟩ := rep_six h hP.symm
    have hp := rep_parts n m c'
    rw [← h.2.2.2, ← hP] at hp
    have e3 : P.getD 3 [] = hexl m := by rw [hp]; rfl
    have e5 : P.getD 5 [] = hexl c' := by rw [hp]; rfl
    exact ⟨⟨rep_len h, x0⟩, x1, by rw [e3]; exact digc_hexl h.2.1, by rw [e5]; exact digc_hexl h.2.2.1, ⟨x3, by rw [x4]; exact h.2.1⟩, x5, by rw [x6]; exact h.2.2.1⟩
  have hT := ref_Text (rnum (P.getD 1 [])) (digc (P.getD 3 [])) (digc (P.getD 5 [])) hV hM hC
  have herr : (∀ n m c', ¬ IsRep s n m c') → r = .tup [.agg repZ, .bool false] := fun h => by
    rcases hr with ⟨n, m, c', h', _⟩ | ⟨_, h'⟩
    · exact absurd h' (h _ _ _)
    · exact h'
  have hrt := rnum_take (P.getD 1 [])
  obtain ⟨p1, hp1⟩ : ∃ p1, p1 = P.getD 1 [] := ⟨_, rfl⟩
  rw [← hp1] at hs1 hV hIs hT hrt
  generalize hb3 : decide (goodp (P.getD 3 []) = true ∧ (unpre (P.getD 3 [])).length = 32) = b3 at *
  generalize hb5 : decide (goodp (P.getD 5 []) = true ∧ (unpre (P.getD 5 [])).length = 32) = b5 at *
  generalize hMM : digc (P.getD 3 []) = M at *
  generalize hCC : digc (P.getD 5 []) = c at *
  have hctx : (¬ (s.length ≤ 250 ∧ P.length = 6) ∧ r = .tup [.agg repZ, .bool false]) ∨ ((s.length ≤ 250 ∧ P.length = 6) ∧ b3 = false ∧ r = .tup [.agg repZ, .bool false]) ∨ ((s.length ≤ 250 ∧ P.length = 6) ∧ b3 = true ∧ b5 = false ∧ r = .tup [.agg repZ, .bool false]) ∨
      ((s.length ≤ 250 ∧ P.length = 6) ∧ b3 = true ∧ b5 = true ∧ ¬ repT (rnum p1) M c = s ∧ r = .tup [.agg repZ, .bool false]) ∨ ((s.length ≤ 250 ∧ P.length = 6) ∧ b3 = true ∧ b5 = true ∧ repT (rnum p1) M c = s ∧ r = .tup [.agg (repc (rnum p1) M c), .bool true]) := by
    by_cases h6 : s.length ≤ 250 ∧ P.length = 6
    case neg => exact .inl ⟨h6, herr fun n m c' h => h6 (hIs n m c' h).1⟩
    cases hbb : b3 with
    | false => exact .inr (.inl ⟨h6, rfl, herr fun n m c' h => by have := (hIs n m c' h).2.2.2.2.1; rw [decide_eq_true this] at hb3; rw [hbb] at hb3; cases hb3⟩)
    | true =>
      cases hbc : b5 with
      | false => exact .inr (.inr (.inl ⟨h6, rfl, rfl, herr fun n m c' h => by have := (hIs n m c' h).2.2.2.2.2; rw [decide_eq_true this] at hb5; rw [hbc] at hb5; cases hb5⟩))
      | true =>
        by_cases hE : repT (rnum p1) M c = s
        · have hR : IsRep s (rnum p1) M c := ⟨hV, hM, hC, hE.symm⟩
          refine .inr (.inr (.inr (.inr ⟨h6, rfl, rfl, hE, ?_⟩)))
          rcases hr with ⟨n, m, c', h', rfl⟩ | ⟨h', _⟩
          · obtain ⟨rfl, rfl, rfl⟩ := rep_same hR h'
            rfl
          · exact absurd hR (h' _ _ _)
        · refine .inr (.inr (.inr (.inl ⟨h6, rfl, rfl, hE, herr fun n m c' h => hE ?_⟩)))
          obtain ⟨_, e1, rfl, rfl, _⟩ := hIs n m c' h
          rw [e1]
          exact h.2.2.2.symm
  clear hr hIs herr hb3 hb5 hMM hCC hsz hP
  have ed : List.drop 64 (M ++ Z32) = [] := List.drop_eq_nil_of_le (by simp [hM, Z32])
  have dM : List.drop M.length Z32 = [] := List.drop_eq_nil_of_le (by simp [hM, Z32])
  have dC : List.drop c.length Z32 = [] := List.drop_eq_nil_of_le (by simp [hC, Z32])
  have d32 : List.drop 32 Z32 = [] := rfl
  unfold Z32 at ed dM dC d32
  have hZ : repZ = .int .u64 0 :: bl (List.replicate 64 0) := rfl
  simp only [List.reduceReplicate] at hZ
  have e2 : rnum p1 = rnum (p1.take p1.length) := by rw [List.take_length]
  rcases hctx with ⟨h6, rfl⟩ | ⟨h6, rfl, rfl⟩ | ⟨h6, rfl, rfl, rfl⟩ | ⟨h6, rfl, rfl, hE, rfl⟩ | ⟨h6, rfl, rfl, hE, rfl⟩
  case' inr.inr.inr.inr => rw [hE] at hT; clear hE
  case' inr.inr.inr.inl => generalize repT (rnum p1) M c = T0 at *
  case' inr.inr.inr.inr => have hE := True.intro
  case' inl => have hE := True.intro
  case' inr.inl => have hE := True.intro
  case' inr.inr.inl => have hE := True.intro
  all_goals unfold repc at *
  all_goals try simp only [hZ]
  all_goals clear hZ
  all_goals
    refine pure_fn cxOk Tryd.func13 (by kernel_rfl) (fun _ => false) (fe13.q) (by kernel_rfl) (Nat.le_of_ble_eq_true (by kernel_rfl)) ?_
    dsimp only [LB, Tryd.f13, lite, nextOf, Option.isNone, Bool.not_true, Bool.not_false, Bool.and_true, Bool.true_and, Bool.false_and, Bool.and_self, Bool.false_eq_true, if_false, if_true, ↓reduceIte, liteO, List.map, Option.map, frame0, List.zipIdx, Nat.reduceAdd]
    try simp only [List.getElem?_toArray, List.getElem?_cons_succ, List.getElem?_cons_zero, Option.bind_some]
    repeat' (first
      | refine aC_seq ?_
      | refine aC_reg rfl ?_
      | refine aC_block ?_
      | refine aC_skip ?_
      | refine aC_loop ?_
      | refine aC_scope ?_
      | refine scopeQ_normal ?_
      | refine scopeQ_exit ?_
      | refine scopeQ_ret ?_
      | refine aC_exit ?_
      | refine aC_ret ?_
      | refine thenQ_normal ?_
      | refine blockQ_normal ?_
      | refine thenQ_ret ?_
      | refine blockQ_ret ?_
      | refine thenQ_exit ?_
      | refine blockQ_hit ?_
      | refine blockQ_miss rfl ?_
      | refine aL_nil ?_
      | (apply aL_step; (· exact True.intro); (· simp (disch := first | omega | (simp only [go_sem]; omega)) only [go_sem, get_miss, seval, reduceCtorEq, hE, eq_self_iff_true, not_true_eq_false, decide_false, decide_true, not_false_eq_true, List.append_nil]); (· simp (disch := first | omega | (simp only [go_sem]; omega)) only [go_sem, get_miss, seval, reduceCtorEq, hE, eq_self_iff_true, not_true_eq_false, decide_false, decide_true, not_false_eq_true, List.append_nil] <;> with_reducible rfl); (· simp only [go_sem] <;> with_reducible rfl))
      | (refine aL_skip ?_ (by simp only [go_sem] <;> with_reducible rfl) ?_; (· simp (disch := first | omega | (simp only [go_sem]; omega)) only [go_sem, get_miss, seval, reduceCtorEq, hE, eq_self_iff_true, not_true_eq_false, decide_false, decide_true, not_false_eq_true, List.append_nil]))
      | (apply aL_guardN; (· simp (disch := first | omega | (simp only [go_sem]; omega)) only [go_sem, get_miss, seval, reduceCtorEq, hE, eq_self_iff_true, not_true_eq_false, decide_false, decide_true, not_false_eq_true, List.append_nil] <;> with_reducible rfl); all_goals (intro h; first | (exfalso; omega) | (simp only [h, decide_true, decide_false, not_true, not_false_iff])))
      | (apply aL_guardP; (· simp (disch := first | omega | (simp only [go_sem]; omega)) only [go_sem, get_miss, seval, reduceCtorEq, hE, eq_self_iff_true, not_true_eq_false, decide_false, decide_true, not_false_eq_true, List.append_nil] <;> with_reducible rfl); all_goals (intro h; first | (exfalso; omega) | (simp only [h, decide_true, decide_false, not_true, not_false_iff])))
      | (refine aC_condT ?_ ?_; (· simp (disch := first | omega | (simp only [go_sem]; omega)) only [go_sem, get_miss, seval, reduceCtorEq, hE, eq_self_iff_true, not_true_eq_false, decide_false, decide_true, not_false_eq_true, List.append_nil]))
      | (refine aC_condF ?_ ?_; (· simp (disch := first | omega | (simp only [go_sem]; omega)) only [go_sem, get_miss, seval, reduceCtorEq, hE, eq_self_iff_true, not_true_eq_false, decide_false, decide_true, not_false_eq_true, List.append_nil]))
      | (refine aC_condP (by simp (disch := first | omega | (simp only [go_sem]; omega)) only [go_sem, get_miss, seval, reduceCtorEq, hE, eq_self_iff_true, not_true_eq_false, decide_false, decide_true, not_false_eq_true, List.append_nil] <;> with_reducible rfl) ?_ ?_ <;> (intro h; first | (exfalso; omega) | skip))
      | (apply aL_pure cxG (hcut); (case hg => (simp (disch := first | omega | (simp only [go_sem]; omega)) only [go_sem, get_miss, seval, reduceCtorEq, hE, eq_self_iff_true, not_true_eq_false, decide_false, decide_true, not_false_eq_true, List.append_nil])); (case hx => (simp (disch := first | omega | (simp only [go_sem]; omega)) only [go_sem, get_miss, seval, reduceCtorEq, hE, eq_self_iff_true, not_true_eq_false, decide_false, decide_true, not_false_eq_true, List.append_nil] <;> with_reducible rfl)); (case ha => (simp (disch := first | omega | (simp only [go_sem]; omega)) only [go_sem, get_miss, seval, reduceCtorEq, hE, eq_self_iff_true, not_true_eq_false, decide_false, decide_true, not_false_eq_true, List.append_nil] <;> with_reducible rfl)); (case he => (simp only [go_sem] <;> with_reducible rfl)); (case hcl => (simp)); (case hf => (simp only [go_sem] <;> with_reducible rfl)))
      | (apply aL_pure cxG (hd3); (case hg => (simp (disch := first | omega | (simp only [go_sem]; omega)) only [go_sem, get_miss, seval, reduceCtorEq, hE, eq_self_iff_true, not_true_eq_false, decide_false, decide_true, not_false_eq_true, List.append_nil])); (case hx => (simp (disch := first | omega | (simp only [go_sem]; omega)) only [go_sem, get_miss, seval, reduceCtorEq, hE, eq_self_iff_true, not_true_eq_false, decide_false, decide_true, not_false_eq_true, List.append_nil] <;> with_reducible rfl)); (case ha => (simp (disch := first | omega | (simp only [go_sem]; omega)) only [go_sem, get_miss, seval, reduceCtorEq, hE, eq_self_iff_true, not_true_eq_false, decide_false, decide_true, not_false_eq_true, List.append_nil] <;> with_reducible rfl)); (case he => (simp only [go_sem] <;> with_reducible rfl)); (case hcl => (simp)); (case hf => (simp only [go_sem] <;> with_reducible rfl)))
      | (apply aL_pure cxG (hd5); (case hg => (simp (disch := first | omega | (simp only [go_sem]; omega)) only [go_sem, get_miss, seval, reduceCtorEq, hE, eq_self_iff_true, not_true_eq_false, decide_false, decide_true, not_false_eq_true, List.append_nil])); (case hx => (simp (disch := first | omega | (simp only [go_sem]; omega)) only [go_sem, get_miss, seval, reduceCtorEq, hE, eq_self_iff_true, not_true_eq_false, decide_false, decide_true, not_false_eq_true, List.append_nil] <;> with_reducible rfl)); (case ha => (simp (disch := first | omega | (simp only [go_sem]; omega)) only [go_sem, get_miss, seval, reduceCtorEq, hE, eq_self_iff_true, not_true_eq_false, decide_false, decide_true, not_false_eq_true, List.append_nil] <;> with_reducible rfl)); (case he => (simp only [go_sem] <;> with_reducible rfl)); (case hcl => (simp)); (case hf => (simp only [go_sem] <;> with_reducible rfl)))
      | fail)
    all_goals try (first | exact True.intro | exact not_false | omega)
    all_goals try (simp (disch := first | omega | (simp only [go_sem]; omega)) only [go_sem, get_miss, seval, reduceCtorEq] <;> first | exact True.intro | omega)
    all_goals try (exact fun _ _ h => h.elim)
    all_goals try (simp (disch := first | omega | (simp only [go_sem]; omega)) only [go_sem, get_miss, seval, reduceCtorEq]; simp; done)
  all_goals
    refine loop_rule (cxOk.wp _ _) (σ := Nat) (fun k => [(5, .int .u64 (rnum (p1.take k) : Nat)), (6, .int .i64 k), (4, .sl 1 false (P.map .str) .any), (3, .bool false), (2, .ptr 0 0), (0, .str s)])
      (fun _ => [.cells (.int .u64 0 :: bl [0, 0, 0, 0, 0, 0, 0, 0, 0, 0, 0, 0, 0, 0, 0, 0, 0, 0, 0, 0, 0, 0, 0, 0, 0, 0, 0, 0, 0, 0, 0, 0, 0, 0, 0, 0, 0, 0, 0, 0, 0, 0, 0, 0, 0, 0, 0, 0, 0, 0, 0, 0, 0, 0, 0, 0, 0, 0, 0, 0, 0, 0, 0, 0]) 28]) (fun k => p1.length - k) (fun k => k ≤ p1.length) 0 (GStep.refl _ _) ⟨Nat.zero_le _, Sub.of_all (by simp [Fr.get, rnum_nil0]), rfl⟩ ?_
    intro k hk
    have hp1' : P.getD 1 [] = p1 := hp1.symm
    have hp1'' : P[1]?.getD [] = p1 := by rw [hp1]; simp [List.getD]
    by_cases hky : k < p1.length
    · have eg : p1.getD k 0 = p1[k] := by simp [List.getD, hky]
      have eq2 := rst_eq (rnum (p1.take k)) p1[k]
      have e4 : IntKind.u64.wrap ((p1[k].toNat : Nat) : Int) = ((p1[k].toNat : Nat) : Int) := IntWalk.u64_in _ ⟨by omega, by have := p1[k].toNat_lt; omega⟩
      have ht := hrt k hky
      rw [← ht] at eq2
      clear hT hd3 hd5 hrt ht hE
      generalize p1[k] = ch at *
      generalize hX : rnum (p1.take (k + 1)) = X at *
      generalize rnum (p1.take k) = Y at *
      repeat' (first
        | refine aC_seq ?_
        | refine aC_reg rfl ?_
        | refine aC_block ?_
        | refine aC_skip ?_
        | refine aC_loop ?_
        | refine aC_scope ?_
        | refine scopeQ_normal ?_
        | refine scopeQ_exit ?_
        | refine scopeQ_ret ?_
        | refine aC_exit ?_
        | refine aC_ret ?_
        | refine thenQ_normal ?_
        | refine blockQ_normal ?_
        | refine thenQ_ret ?_
        | refine blockQ_ret ?_
        | refine thenQ_exit ?_
        | refine blockQ_hit ?_
        | refine blockQ_miss rfl ?_
        | refine aL_nil ?_
        | (apply aL_step; (· exact True.intro); (· simp (disch := first | omega | (simp only [go_sem]; omega)) only [go_sem, get_miss, seval, reduceCtorEq, hp1', hp1'', eg, eq2, e4]); (· simp (disch := first | omega | (simp only [go_sem]; omega)) only [go_sem, get_miss, seval, reduceCtorEq, hp1', hp1'', eg, eq2, e4] <;> with_reducible rfl); (· simp only [go_sem] <;> with_reducible rfl))
        | (refine aL_skip ?_ (by simp only [go_sem] <;> with_reducible rfl) ?_; (· simp (disch := first | omega | (simp only [go_sem]; omega)) only [go_sem, get_miss, seval, reduceCtorEq, hp1', hp1'', eg, eq2, e4]))
        | (apply aL_guardN; (· simp (disch := first | omega | (simp only [go_sem]; omega)) only [go_sem, get_miss, seval, reduceCtorEq, hp1', hp1'', eg, eq2, e4] <;> with_reducible rfl); all_goals (intro h; first | (exfalso; omega) | (simp only [h, decide_true, decide_false, not_true, not_false_iff])))
        | (apply aL_guardP; (· simp (disch := first | omega | (simp only [go_sem]; omega)) only [go_sem, get_miss, seval, reduceCtorEq, hp1', hp1'', eg, eq2, e4] <;> with_reducible rfl); all_goals (intro h; first | (exfalso; omega) | (simp only [h, decide_true, decide_false, not_true, not_false_iff])))
        | (refine aC_condT ?_ ?_; (· simp (disch := first | omega | (simp only [go_sem]; omega)) only [go_sem, get_miss, seval, reduceCtorEq, hp1', hp1'', eg, eq2, e4]))
        | (refine aC_condF ?_ ?_; (· simp (disch := first | omega | (simp only [go_sem]; omega)) only [go_sem, get_miss, seval, reduceCtorEq, hp1', hp1'', eg, eq2, e4]))
        | (refine aC_condP (by simp (disch := first | omega | (simp only [go_sem]; omega)) only [go_sem, get_miss, seval, reduceCtorEq, hp1', hp1'', eg, eq2, e4] <;> with_reducible rfl) ?_ ?_ <;> (intro h; first | (exfalso; omega) | skip))
        | fail)
      all_goals try (first | exact True.intro | exact not_false | omega)
      all_goals try (simp (disch := first | omega | (simp only [go_sem]; omega)) only [go_sem, get_miss, seval, reduceCtorEq] <;> first | exact True.intro | omega)
      all_goals exact ⟨k + 1, by omega, Sub.of_all (by simp [Fr.get, hX]), rfl, by omega⟩
    · have hkl : k = p1.length := by omega
      subst hkl
      rw [List.take_length]
      repeat' (first
        | refine aC_seq ?_
        | refine aC_reg rfl ?_
        | refine aC_block ?_
        | refine aC_skip ?_
        | refine aC_loop ?_
        | refine aC_scope ?_
        | refine scopeQ_normal ?_
        | refine scopeQ_exit ?_
        | refine scopeQ_ret ?_
        | refine aC_exit ?_
        | refine aC_ret ?_
        | refine thenQ_normal ?_
        | refine blockQ_normal ?_
        | refine thenQ_ret ?_
        | refine blockQ_ret ?_
        | refine thenQ_exit ?_
        | refine blockQ_hit ?_
        | refine blockQ_miss rfl ?_
        | refine aL_nil ?_
        | (apply aL_step; (· exact True.intro); (· simp (disch := first | omega | (simp only [go_sem]; omega)) only [go_sem, get_miss, seval, reduceCtorEq, hp1', hp1'', hE, eq_self_iff_true, not_true_eq_false, decide_false, decide_true, not_false_eq_true, Bool.not_true, Bool.not_false, List.append_nil, ed, dM, dC, d32, hM, hC]); (· simp (disch := first | omega | (simp only [go_sem]; omega)) only [go_sem, get_miss, seval, reduceCtorEq, hp1', hp1'', hE, eq_self_iff_true, not_true_eq_false, decide_false, decide_true, not_false_eq_true, Bool.not_true, Bool.not_false, List.append_nil, ed, dM, dC, d32, hM, hC] <;> with_reducible rfl); (· simp only [go_sem] <;> with_reducible rfl))
        | (refine aL_skip ?_ (by simp only [go_sem] <;> with_reducible rfl) ?_; (· simp (disch := first | omega | (simp only [go_sem]; omega)) only [go_sem, get_miss, seval, reduceCtorEq, hp1', hp1'', hE, eq_self_iff_true, not_true_eq_false, decide_false, decide_true, not_false_eq_true, Bool.not_true, Bool.not_false, List.append_nil, ed, dM, dC, d32, hM, hC]))
        | (apply aL_guardN; (· simp (disch := first | omega | (simp only [go_sem]; omega)) only [go_sem, get_miss, seval, reduceCtorEq, hp1', hp1'', hE, eq_self_iff_true, not_true_eq_false, decide_false, decide_true, not_false_eq_true, Bool.not_true, Bool.not_false, List.append_nil, ed, dM, dC, d32, hM, hC] <;> with_reducible rfl); all_goals (intro h; first | (exfalso; omega) | (simp only [h, decide_true, decide_false, not_true, not_false_iff])))
        | (apply aL_guardP; (· simp (disch := first | omega | (simp only [go_sem]; omega)) only [go_sem, get_miss, seval, reduceCtorEq, hp1', hp1'', hE, eq_self_iff_true, not_true_eq_false, decide_false, decide_true, not_false_eq_true, Bool.not_true, Bool.not_false, List.append_nil, ed, dM, dC, d32, hM, hC] <;> with_reducible rfl); all_goals (intro h; first | (exfalso; omega) | (simp only [h, decide_true, decide_false, not_true, not_false_iff])))
        | (refine aC_condT ?_ ?_; (· simp (disch := first | omega | (simp only [go_sem]; omega)) only [go_sem, get_miss, seval, reduceCtorEq, hp1', hp1'', hE, eq_self_iff_true, not_true_eq_false, decide_false, decide_true, not_false_eq_true, Bool.not_true, Bool.not_false, List.append_nil, ed, dM, dC, d32, hM, hC]))
        | (refine aC_condF ?_ ?_; (· simp (disch := first | omega | (simp only [go_sem]; omega)) only [go_sem, get_miss, seval, reduceCtorEq, hp1', hp1'', hE, eq_self_iff_true, not_true_eq_false, decide_false, decide_true, not_false_eq_true, Bool.not_true, Bool.not_false, List.append_nil, ed, dM, dC, d32, hM, hC]))
        | (refine aC_condP (by simp (disch := first | omega | (simp only [go_sem]; omega)) only [go_sem, get_miss, seval, reduceCtorEq, hp1', hp1'', hE, eq_self_iff_true, not_true_eq_false, decide_false, decide_true, not_false_eq_true, Bool.not_true, Bool.not_false, List.append_nil, ed, dM, dC, d32, hM, hC] <;> with_reducible rfl) ?_ ?_ <;> (intro h; first | (exfalso; omega) | skip))
        | (apply aL_pure cxG (hd3); (case hg => (simp (disch := first | omega | (simp only [go_sem]; omega)) only [go_sem, get_miss, seval, reduceCtorEq, hp1', hp1'', hE, eq_self_iff_true, not_true_eq_false, decide_false, decide_true, not_false_eq_true, Bool.not_true, Bool.not_false, List.append_nil, ed, dM, dC, d32, hM, hC])); (case hx => (simp (disch := first | omega | (simp only [go_sem]; omega)) only [go_sem, get_miss, seval, reduceCtorEq, hp1', hp1'', hE, eq_self_iff_true, not_true_eq_false, decide_false, decide_true, not_false_eq_true, Bool.not_true, Bool.not_false, List.append_nil, ed, dM, dC, d32, hM, hC] <;> with_reducible rfl)); (case ha => (simp (disch := first | omega | (simp only [go_sem]; omega)) only [go_sem, get_miss, seval, reduceCtorEq, hp1', hp1'', hE, eq_self_iff_true, not_true_eq_false, decide_false, decide_true, not_false_eq_true, Bool.not_true, Bool.not_false, List.append_nil, ed, dM, dC, d32, hM, hC] <;> with_reducible rfl)); (case he => (simp only [go_sem] <;> with_reducible rfl)); (case hcl => (simp)); (case hf => (simp only [go_sem] <;> with_reducible rfl)))
        | (apply aL_pure cxG (hd5); (case hg => (simp (disch := first | omega | (simp only [go_sem]; omega)) only [go_sem, get_miss, seval, reduceCtorEq, hp1', hp1'', hE, eq_self_iff_true, not_true_eq_false, decide_false, decide_true, not_false_eq_true, Bool.not_true, Bool.not_false, List.append_nil, ed, dM, dC, d32, hM, hC])); (case hx => (simp (disch := first | omega | (simp only [go_sem]; omega)) only [go_sem, get_miss, seval, reduceCtorEq, hp1', hp1'', hE, eq_self_iff_true, not_true_eq_false, decide_false, decide_true, not_false_eq_true, Bool.not_true, Bool.not_false, List.append_nil, ed, dM, dC, d32, hM, hC] <;> with_reducible rfl)); (case ha => (simp (disch := first | omega | (simp only [go_sem]; omega)) only [go_sem, get_miss, seval, reduceCtorEq, hp1', hp1'', hE, eq_self_iff_true, not_true_eq_false, decide_false, decide_true, not_false_eq_true, Bool.not_true, Bool.not_false, List.append_nil, ed, dM, dC, d32, hM, hC] <;> with_reducible rfl)); (case he => (simp only [go_sem] <;> with_reducible rfl)); (case hcl => (simp)); (case hf => (simp only [go_sem] <;> with_reducible rfl)))
        | (apply aL_pure cxG (hT); (case hg => (simp (disch := first | omega | (simp only [go_sem]; omega)) only [go_sem, get_miss, seval, reduceCtorEq, hp1', hp1'', hE, eq_self_iff_true, not_true_eq_false, decide_false, decide_true, not_false_eq_true, Bool.not_true, Bool.not_false, List.append_nil, ed, dM, dC, d32, hM, hC])); (case hx => (simp (disch := first | omega | (simp only [go_sem]; omega)) only [go_sem, get_miss, seval, reduceCtorEq, hp1', hp1'', hE, eq_self_iff_true, not_true_eq_false, decide_false, decide_true, not_false_eq_true, Bool.not_true, Bool.not_false, List.append_nil, ed, dM, dC, d32, hM, hC] <;> with_reducible rfl)); (case ha => (simp (disch := first | omega | (simp only [go_sem]; omega)) only [go_sem, get_miss, seval, reduceCtorEq, hp1', hp1'', hE, eq_self_iff_true, not_true_eq_false, decide_false, decide_true, not_false_eq_true, Bool.not_true, Bool.not_false, List.append_nil, ed, dM, dC, d32, hM, hC] <;> with_reducible rfl)); (case he => (simp only [go_sem] <;> with_reducible rfl)); (case hcl => (simp)); (case hf => (simp only [go_sem] <;> with_reducible rfl)))
        | fail)
      all_goals try (first | exact True.intro | exact not_false | omega)
      all_goals try (simp (disch := first | omega | (simp only [go_sem]; omega)) only [go_sem, get_miss, seval, reduceCtorEq] <;> first | exact True.intro | omega)
      all_goals try (exact fun _ _ h => h.elim)
      all_goals try (simp (disch := first | omega | (simp only [go_sem]; omega)) only [go_sem, get_miss, seval, reduceCtorEq, ed, List.append_nil])
      all_goals try simp
      all_goals try omega
  all_goals trace_state
  all_goals sorry
end
end Go.Am
