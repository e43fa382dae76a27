/- report.Untext. -/
import Derived.Test.YtbaminbodfidmaaDoorR05
import Derived.Test.YtbaminbodfidmaaDoorP01
set_option linter.unusedVariables false
set_option linter.unusedSimpArgs false
namespace Go.Am
open Go Go.Proofs
set_option linter.unusedSimpArgs false
set_option linter.unusedVariables false
set_option maxHeartbeats 8000000
set_option maxRecDepth 100000
section
attribute [local irreducible] aC aL thenQ blockQ scopeQ ALoop AWp

theorem getD_strs (P : List (List UInt8)) (k : Nat) (d : AVal) (h : k < P.length) : (P.map AVal.str).getD k d = .str (P.getD k []) := by simp [List.getD, h]
theorem ne_eqN {a b : Nat} (h : a = b) : (a ≠ b) = False := by simp [h]
attribute [go_sem] getD_strs ne_eqN
theorem parts_short (s : List UInt8) : ∀ x ∈ parts s [32], x.length ≤ s.length := parts_sizes s [32]

theorem report_Untext (s : List UInt8) (hs : s.length ≤ 1048576) (r : AVal) (hr : (∃ n m c, IsRep s n m c ∧ r = .tup [.agg (repc n m c), .int .i64 0]) ∨ ((∀ n m c, ¬ IsRep s n m c) ∧ r = .tup [.agg repZ, .int .i64 4])) :
    APure cx 12 [.str s] r := by
  have hsq := split_seq s (.cells repZ 28) (.cells [.sl 1 true [] .any] 52)
  obtain ⟨P, hP⟩ : ∃ P, P = parts s [32] := ⟨_, rfl⟩
  obtain ⟨w0, wr, hw, hwl⟩ := parts_len s [32] (by decide)
  have hPn : P.length ≤ s.length + 1 := by rw [hP, hw]; simp; omega
  have hPe : P.isEmpty = false := by rw [hP, hw]; rfl
  have hsz : ∀ k, (P.getD k []).length ≤ s.length := fun k => by
    by_cases hk : k < P.length
    · have : P.getD k [] = P[k] := by simp [List.getD, hk]
      rw [this]
      exact parts_short s _ (by rw [← hP]; exact List.getElem_mem hk)
    · simp [List.getD, Nat.le_of_not_lt hk]
  have hkey : ∃ (V : Int) (E : AVal) (n3 n5 : Bool) (M c : List UInt8) (e3 e5 : Int), APure cx 26 [.str (P.getD 1 []), .int .i64 10, .int .i64 64] (.tup [.int .u64 V, E]) ∧
      APure cx 27 [.str (P.getD 3 [])] (.tup [.sl 1 n3 (bl M) .any, .int .i64 e3]) ∧ APure cx 27 [.str (P.getD 5 [])] (.tup [.sl 1 n5 (bl c) .any, .int .i64 e5]) ∧
      ((E = .nilifc ∧ ∃ v : Nat, V = (v : Int) ∧ v < 18446744073709551616) ∨ ∃ t, E = .ifc t .any) ∧ (∀ n m c', IsRep s n m c' → V = (n : Int) ∧ E = .nilifc ∧ M = m ∧ e3 = 0 ∧ c = c' ∧ e5 = 0) := by
    have hx := fun n m c h => rep_six (n := n) (m := m) (c := c) h hP.symm
    have hU : ∀ k, ∃ (n3 : Bool) (M : List UInt8) (e3 : Int), APure cx 27 [.str (P.getD k [])] (.tup [.sl 1 n3 (bl M) .any, .int .i64 e3]) ∧ (goodp (P.getD k []) = true → M = unpre (P.getD k []) ∧ e3 = 0) := fun k => by
      have h := wire_unhex (P.getD k []) (by have := hsz k; omega)
      by_cases hg : goodp (P.getD k []) = true
      · rw [if_pos hg] at h; exact ⟨_, _, _, h, fun _ => ⟨rfl, rfl⟩⟩
      · rw [if_neg hg] at h; exact ⟨true, [], _, h, fun k => absurd k hg⟩
    obtain ⟨n3, M, e3, u3, g3⟩ := hU 3
    obtain ⟨n5, c, e5, u5, g5⟩ := hU 5
    rcases a_parseU (P.getD 1 []) (by have := hsz 1; omega) with ⟨v, hv, hp⟩ | ⟨hv, n, t, hp⟩
    · refine ⟨v, .nilifc, n3, n5, M, c, e3, e5, hp, u3, u5, .inl ⟨rfl, v, rfl, puP_lt hv⟩, fun n m c' h => ?_⟩
      obtain ⟨_, x1, _, ⟨x3, x4⟩, x5, x6⟩ := hx n m c' h
      rw [hv] at x1
      exact ⟨congrArg _ (Option.some.inj x1), rfl, (g3 x3).1.trans x4, (g3 x3).2, (g5 x5).1.trans x6, (g5 x5).2⟩
    · refine ⟨n, .ifc t .any, n3, n5, M, c, e3, e5, hp, u3, u5, .inr ⟨t, rfl⟩, fun n m c' h => ?_⟩
      obtain ⟨_, x1, _⟩ := hx n m c' h
      rw [hv] at x1
      cases x1
  obtain ⟨V, E, n3, n5, M, c, e3, e5, hPU, h3, h5, hE, hIs⟩ := hkey
  have hlen6 : ∀ n m c', IsRep s n m c' → P.length = 6 := fun n m c' h => (rep_six h hP.symm).1
  have hall0 := fun (LP : ABox) => split_all s hs (.cells repZ 28) (fun k => .cells [.sl 1 (P.take k).isEmpty ((P.take k).map .str) (.own 6)] 52) (fun k => .grow k 1 9) LP
  rw [← hP] at hall0
  have hall : ∀ LP : ABox, _ → ACall cx 50 [.yld 5, .ptr 3 0, .ptr 2 0, .ptr 4 0] [.cells repZ 28, .cells [.sl 1 true [] .any] 52, .cells [.str s] 9, .cells [.str [32]] 9, .cells [.int .i64 0] 3, LP] (.tup []) _ := fun LP hy =>
    ACall.ownG 1 0 1 9 rfl rfl (hall0 LP hy)
  clear hall0
  have herr : (∀ n m c', ¬ IsRep s n m c') → r = .tup [.agg repZ, .int .i64 4] := fun h => by
    rcases hr with ⟨n, m, c', h', _⟩ | ⟨_, h'⟩
    · exact absurd h' (h _ _ _)
    · exact h'
  have hctx : (P.length ≠ 6 ∧ r = .tup [.agg repZ, .int .i64 4]) ∨ (P.length = 6 ∧ (∃ t, E = .ifc t .any) ∧ r = .tup [.agg repZ, .int .i64 4]) ∨
      (P.length = 6 ∧ E = .nilifc ∧ ¬ (M.length = 32 ∧ c.length = 32 ∧ e3 = 0 ∧ e5 = 0) ∧ r = .tup [.agg repZ, .int .i64 4]) ∨
      (∃ v : Nat, V = (v : Int) ∧ v < 18446744073709551616 ∧ P.length = 6 ∧ E = .nilifc ∧ M.length = 32 ∧ c.length = 32 ∧ ¬ repT v M c = s ∧ r = .tup [.agg repZ, .int .i64 4]) ∨
      (∃ v : Nat, V = (v : Int) ∧ v < 18446744073709551616 ∧ P.length = 6 ∧ E = .nilifc ∧ M.length = 32 ∧ c.length = 32 ∧ e3 = 0 ∧ e5 = 0 ∧ repT v M c = s ∧ r = .tup [.agg (repc v M c), .int .i64 0]) := by
    by_cases h6 : P.length = 6
    case neg => exact .inl ⟨h6, herr fun n m c' h => h6 (hlen6 n m c' h)⟩
    rcases hE with ⟨hE, v, hv, hv2⟩ | hE
    case inr => exact .inr (.inl ⟨h6, hE, herr fun n m c' h => by obtain ⟨t, hE⟩ := hE; have := (hIs n m c' h).2.1; rw [hE] at this; cases this⟩)
    by_cases hL : M.length = 32 ∧ c.length = 32 ∧ e3 = 0 ∧ e5 = 0
    case neg => exact .inr (.inr (.inl ⟨h6, hE, hL, herr fun n m c' h => hL (by obtain ⟨_, _, rfl, h1, rfl, h2⟩ := hIs n m c' h; exact ⟨h.2.1, h.2.2.1, h1, h2⟩)⟩))
    obtain ⟨l1, l2, l3, l4⟩ := hL
    by_cases hT : repT v M c = s
    · have hR : IsRep s v M c := ⟨hv2, l1, l2, hT.symm⟩
      refine .inr (.inr (.inr (.inr ⟨v, hv, hv2, h6, hE, l1, l2, l3, l4, hT, ?_⟩)))
      rcases hr with ⟨n, m, c', h', rfl⟩ | ⟨h', _⟩
      · obtain ⟨rfl, rfl, rfl⟩ := rep_same hR h'
        rfl
      · exact absurd hR (h' _ _ _)
    · refine .inr (.inr (.inr (.inl ⟨v, hv, hv2, h6, hE, l1, l2, hT, herr fun n m c' h => hT ?_⟩)))
      obtain ⟨e1, _, rfl, _, rfl, _⟩ := hIs n m c' h
      obtain rfl : v = n := by omega
      exact h.2.2.2.symm
  clear hr hIs herr hlen6 hE
  have hZ : repZ = .int .u64 0 :: bl (List.replicate 64 0) := rfl
  simp only [List.reduceReplicate] at hZ
  rcases hctx with ⟨h6, rfl⟩ | ⟨h6, ⟨t, rfl⟩, rfl⟩ | ⟨h6, rfl, hL, rfl⟩ | ⟨v, rfl, hv, h6, rfl, hm, hc, hT, rfl⟩ | ⟨v, rfl, hv, h6, rfl, hm, hc, e30, e50, hT, rfl⟩
  case' inr.inr.inr.inl => have hTx := report_Text v M c hv hm hc
  case' inr.inr.inr.inr => have hTx := report_Text v M c hv hm hc
  case' inr.inr.inr.inr => rw [hT] at hTx
  case' inr.inr.inr.inl => generalize repT v M c = T0 at *
  case' inr.inr.inr.inl => (have ed : List.drop 64 (M ++ Z32) = [] := List.drop_eq_nil_of_le (by simp [hm, Z32])); unfold Z32 at ed
  case' inr.inr.inr.inr => (have ed : List.drop 64 (M ++ Z32) = [] := List.drop_eq_nil_of_le (by simp [hm, Z32])); unfold Z32 at ed
  case' inl => have hT := True.intro
  case' inr.inl => have hT := True.intro
  case' inr.inr.inl => have hT := True.intro
  case' inr.inr.inr.inr => have hT := True.intro
  case' inr.inr.inr.inr => subst e30 e50
  all_goals unfold repc at *
  all_goals simp only [hZ] at hsq hall ⊢
  all_goals clear hZ hP hw hwl hsz
  all_goals
    refine pure_fn cxOk Tryd.func12 (by kernel_rfl) (fun _ => false) (fe12.q) (by kernel_rfl) (Nat.le_of_ble_eq_true (by kernel_rfl)) ?_
    dsimp only [LB, Tryd.f12, lite, nextOf, Option.isNone, Bool.not_true, Bool.not_false, Bool.and_true, Bool.true_and, Bool.false_and, Bool.and_self, Bool.false_eq_true, if_false, if_true, ↓reduceIte, liteO, List.map, Option.map, frame0, List.zipIdx, Nat.reduceAdd]
    try simp only [List.getElem?_toArray, List.getElem?_cons_succ, List.getElem?_cons_zero, Option.bind_some]
    repeat' (first
      | refine aC_seq ?_
      | refine aC_reg rfl ?_
      | refine aC_block ?_
      | refine aC_skip ?_
      | refine aC_loop ?_
      | refine aC_scope ?_
      | refine scopeQ_normal ?_
      | refine scopeQ_exit ?_
      | refine scopeQ_ret ?_
      | refine aC_exit ?_
      | refine aC_ret ?_
      | refine thenQ_normal ?_
      | refine blockQ_normal ?_
      | refine thenQ_ret ?_
      | refine blockQ_ret ?_
      | refine thenQ_exit ?_
      | refine blockQ_hit ?_
      | refine blockQ_miss rfl ?_
      | refine aL_nil ?_
      | (apply aL_step; (· exact True.intro); (· simp (disch := first | omega | (simp only [go_sem]; omega)) only [go_sem, get_miss, seval, reduceCtorEq]); (· simp (disch := first | omega | (simp only [go_sem]; omega)) only [go_sem, get_miss, seval, reduceCtorEq] <;> with_reducible rfl); (· simp only [go_sem] <;> with_reducible rfl))
      | (refine aL_skip ?_ (by simp only [go_sem] <;> with_reducible rfl) ?_; (· simp (disch := first | omega | (simp only [go_sem]; omega)) only [go_sem, get_miss, seval, reduceCtorEq]))
      | (apply aL_guardN; (· simp (disch := first | omega | (simp only [go_sem]; omega)) only [go_sem, get_miss, seval, reduceCtorEq] <;> with_reducible rfl); all_goals (intro h; first | (exfalso; omega) | (simp only [h, decide_true, decide_false, not_true, not_false_iff])))
      | (apply aL_guardP; (· simp (disch := first | omega | (simp only [go_sem]; omega)) only [go_sem, get_miss, seval, reduceCtorEq] <;> with_reducible rfl); all_goals (intro h; first | (exfalso; omega) | (simp only [h, decide_true, decide_false, not_true, not_false_iff])))
      | (refine aC_condT ?_ ?_; (· simp (disch := first | omega | (simp only [go_sem]; omega)) only [go_sem, get_miss, seval, reduceCtorEq]))
      | (refine aC_condF ?_ ?_; (· simp (disch := first | omega | (simp only [go_sem]; omega)) only [go_sem, get_miss, seval, reduceCtorEq]))
      | (refine aC_condP (by simp (disch := first | omega | (simp only [go_sem]; omega)) only [go_sem, get_miss, seval, reduceCtorEq] <;> with_reducible rfl) ?_ ?_ <;> (intro h; first | (exfalso; omega) | skip))
      | (apply aL_acall (hsq); (case hg => (simp (disch := first | omega | (simp only [go_sem]; omega)) only [go_sem, get_miss, seval, reduceCtorEq])); (case hx => (simp (disch := first | omega | (simp only [go_sem]; omega)) only [go_sem, get_miss, seval, reduceCtorEq] <;> with_reducible rfl)); (case ha => (simp (disch := first | omega | (simp only [go_sem]; omega)) only [go_sem, get_miss, seval, reduceCtorEq] <;> with_reducible rfl)); (case he => (with_reducible rfl)); (case hp => (rfl)); (case hf => (simp only [go_sem] <;> with_reducible rfl)))
      | fail)
    all_goals try (first | exact True.intro | exact not_false | omega)
    all_goals try (simp (disch := first | omega | (simp only [go_sem]; omega)) only [go_sem, get_miss, seval, reduceCtorEq] <;> first | exact True.intro | omega)
    refine aC_rangeFnB (tag := 0) rfl rfl (hall _ ?_) rfl (by intro h; cases h) ?_
    · intro k hk rest
      have htk : P.take (k + 1) = P.take k ++ [P.getD k []] := by
        rw [List.take_succ_eq_append_getElem hk]; simp [List.getD, hk]
      have hke : (P.take (k + 1)).isEmpty = false := by rw [htk]; cases P.take k <;> rfl
      have hkl : (P.take k).length = k := by rw [List.length_take]; omega
      dsimp only [spS]
      rw [hke, htk, List.map_append]
      clear hall hsq htk hke hPU h3 h5 h6 hT
      generalize P.take k = Q at *
      generalize P.getD k [] = x at *
      subst hkl
      refine ayield_hand cxOk (p := fun _ => false) (q := fun _ => none) rfl rfl (by kernel_rfl) (by kernel_rfl) (by kernel_rfl) (by kernel_rfl) (by kernel_rfl) rfl rfl ?_
      dsimp only [putAll, lite, nextOf, Option.isNone, Bool.not_true, Bool.not_false, Bool.and_true, Bool.true_and, Bool.false_and, Bool.and_self, Bool.false_eq_true, if_false, if_true, ↓reduceIte, liteO, List.map, Option.map, List.zipIdx, Nat.reduceAdd]
      try simp only [List.getElem?_toArray, List.getElem?_cons_succ, List.getElem?_cons_zero, Option.bind_some]
      repeat' (first
        | refine aC_seq ?_
        | refine aC_reg rfl ?_
        | refine aC_block ?_
        | refine aC_skip ?_
        | refine aC_loop ?_
        | refine aC_scope ?_
        | refine scopeQ_normal ?_
        | refine scopeQ_exit ?_
        | refine scopeQ_ret ?_
        | refine aC_exit ?_
        | refine aC_ret ?_
        | refine thenQ_normal ?_
        | refine blockQ_normal ?_
        | refine thenQ_ret ?_
        | refine blockQ_ret ?_
        | refine thenQ_exit ?_
        | refine blockQ_hit ?_
        | refine blockQ_miss rfl ?_
        | refine aL_nil ?_
        | (apply aL_step; (· exact True.intro); (· simp (disch := first | omega | (simp only [go_sem]; omega)) only [go_sem, get_miss, seval, reduceCtorEq]); (· simp (disch := first | omega | (simp only [go_sem]; omega)) only [go_sem, get_miss, seval, reduceCtorEq] <;> with_reducible rfl); (· simp only [go_sem] <;> with_reducible rfl))
        | (refine aL_skip ?_ (by simp only [go_sem] <;> with_reducible rfl) ?_; (· simp (disch := first | omega | (simp only [go_sem]; omega)) only [go_sem, get_miss, seval, reduceCtorEq]))
        | (apply aL_guardN; (· simp (disch := first | omega | (simp only [go_sem]; omega)) only [go_sem, get_miss, seval, reduceCtorEq] <;> with_reducible rfl); all_goals (intro h; first | (exfalso; omega) | (simp only [h, decide_true, decide_false, not_true, not_false_iff])))
        | (apply aL_guardP; (· simp (disch := first | omega | (simp only [go_sem]; omega)) only [go_sem, get_miss, seval, reduceCtorEq] <;> with_reducible rfl); all_goals (intro h; first | (exfalso; omega) | (simp only [h, decide_true, decide_false, not_true, not_false_iff])))
        | (refine aC_condT ?_ ?_; (· simp (disch := first | omega | (simp only [go_sem]; omega)) only [go_sem, get_miss, seval, reduceCtorEq]))
        | (refine aC_condF ?_ ?_; (· simp (disch := first | omega | (simp only [go_sem]; omega)) only [go_sem, get_miss, seval, reduceCtorEq]))
        | (refine aC_condP (by simp (disch := first | omega | (simp only [go_sem]; omega)) only [go_sem, get_miss, seval, reduceCtorEq] <;> with_reducible rfl) ?_ ?_ <;> (intro h; first | (exfalso; omega) | skip))
        | fail)
      refine ⟨rfl, rfl, ?_⟩
      repeat' (first
        | refine aC_seq ?_
        | refine aC_reg rfl ?_
        | refine aC_block ?_
        | refine aC_skip ?_
        | refine aC_loop ?_
        | refine aC_scope ?_
        | refine scopeQ_normal ?_
        | refine scopeQ_exit ?_
        | refine scopeQ_ret ?_
        | refine aC_exit ?_
        | refine aC_ret ?_
        | refine thenQ_normal ?_
        | refine blockQ_normal ?_
        | refine thenQ_ret ?_
        | refine blockQ_ret ?_
        | refine thenQ_exit ?_
        | refine blockQ_hit ?_
        | refine blockQ_miss rfl ?_
        | refine aL_nil ?_
        | (apply aL_step; (· exact True.intro); (· simp (disch := first | omega | (simp only [go_sem]; omega)) only [go_sem, get_miss, seval, reduceCtorEq]); (· simp (disch := first | omega | (simp only [go_sem]; omega)) only [go_sem, get_miss, seval, reduceCtorEq] <;> with_reducible rfl); (· simp only [go_sem] <;> with_reducible rfl))
        | (refine aL_skip ?_ (by simp only [go_sem] <;> with_reducible rfl) ?_; (· simp (disch := first | omega | (simp only [go_sem]; omega)) only [go_sem, get_miss, seval, reduceCtorEq]))
        | (apply aL_guardN; (· simp (disch := first | omega | (simp only [go_sem]; omega)) only [go_sem, get_miss, seval, reduceCtorEq] <;> with_reducible rfl); all_goals (intro h; first | (exfalso; omega) | (simp only [h, decide_true, decide_false, not_true, not_false_iff])))
        | (apply aL_guardP; (· simp (disch := first | omega | (simp only [go_sem]; omega)) only [go_sem, get_miss, seval, reduceCtorEq] <;> with_reducible rfl); all_goals (intro h; first | (exfalso; omega) | (simp only [h, decide_true, decide_false, not_true, not_false_iff])))
        | (refine aC_condT ?_ ?_; (· simp (disch := first | omega | (simp only [go_sem]; omega)) only [go_sem, get_miss, seval, reduceCtorEq]))
        | (refine aC_condF ?_ ?_; (· simp (disch := first | omega | (simp only [go_sem]; omega)) only [go_sem, get_miss, seval, reduceCtorEq]))
        | (refine aC_condP (by simp (disch := first | omega | (simp only [go_sem]; omega)) only [go_sem, get_miss, seval, reduceCtorEq] <;> with_reducible rfl) ?_ ?_ <;> (intro h; first | (exfalso; omega) | skip))
        | fail)
      all_goals first | exact True.intro | (refine ⟨?_, ?_⟩ <;> omega) | exact ⟨rfl, rfl⟩
    · simp only [pendQ]
      clear hall hsq
      dsimp only [spS]
      rw [List.take_length, hPe]
      repeat' (first
        | refine aC_seq ?_
        | refine aC_reg rfl ?_
        | refine aC_block ?_
        | refine aC_skip ?_
        | refine aC_loop ?_
        | refine aC_scope ?_
        | refine scopeQ_normal ?_
        | refine scopeQ_exit ?_
        | refine scopeQ_ret ?_
        | refine aC_exit ?_
        | refine aC_ret ?_
        | refine thenQ_normal ?_
        | refine blockQ_normal ?_
        | refine thenQ_ret ?_
        | refine blockQ_ret ?_
        | refine thenQ_exit ?_
        | refine blockQ_hit ?_
        | refine blockQ_miss rfl ?_
        | refine aL_nil ?_
        | (apply aL_step; (· exact True.intro); (· simp (disch := first | omega | (simp only [go_sem]; omega)) only [go_sem, get_miss, seval, reduceCtorEq, hT, eq_self_iff_true, not_true_eq_false, decide_false, decide_true, not_false_eq_true, List.append_nil]); (· simp (disch := first | omega | (simp only [go_sem]; omega)) only [go_sem, get_miss, seval, reduceCtorEq, hT, eq_self_iff_true, not_true_eq_false, decide_false, decide_true, not_false_eq_true, List.append_nil] <;> with_reducible rfl); (· simp only [go_sem] <;> with_reducible rfl))
        | (refine aL_skip ?_ (by simp only [go_sem] <;> with_reducible rfl) ?_; (· simp (disch := first | omega | (simp only [go_sem]; omega)) only [go_sem, get_miss, seval, reduceCtorEq, hT, eq_self_iff_true, not_true_eq_false, decide_false, decide_true, not_false_eq_true, List.append_nil]))
        | (apply aL_guardN; (· simp (disch := first | omega | (simp only [go_sem]; omega)) only [go_sem, get_miss, seval, reduceCtorEq, hT, eq_self_iff_true, not_true_eq_false, decide_false, decide_true, not_false_eq_true, List.append_nil] <;> with_reducible rfl); all_goals (intro h; first | (exfalso; omega) | (simp only [h, decide_true, decide_false, not_true, not_false_iff])))
        | (apply aL_guardP; (· simp (disch := first | omega | (simp only [go_sem]; omega)) only [go_sem, get_miss, seval, reduceCtorEq, hT, eq_self_iff_true, not_true_eq_false, decide_false, decide_true, not_false_eq_true, List.append_nil] <;> with_reducible rfl); all_goals (intro h; first | (exfalso; omega) | (simp only [h, decide_true, decide_false, not_true, not_false_iff])))
        | (refine aC_condT ?_ ?_; (· simp (disch := first | omega | (simp only [go_sem]; omega)) only [go_sem, get_miss, seval, reduceCtorEq, hT, eq_self_iff_true, not_true_eq_false, decide_false, decide_true, not_false_eq_true, List.append_nil]))
        | (refine aC_condF ?_ ?_; (· simp (disch := first | omega | (simp only [go_sem]; omega)) only [go_sem, get_miss, seval, reduceCtorEq, hT, eq_self_iff_true, not_true_eq_false, decide_false, decide_true, not_false_eq_true, List.append_nil]))
        | (refine aC_condP (by simp (disch := first | omega | (simp only [go_sem]; omega)) only [go_sem, get_miss, seval, reduceCtorEq, hT, eq_self_iff_true, not_true_eq_false, decide_false, decide_true, not_false_eq_true, List.append_nil] <;> with_reducible rfl) ?_ ?_ <;> (intro h; first | (exfalso; omega) | skip))
        | (apply aL_pure cxG (hPU); (case hg => (simp (disch := first | omega | (simp only [go_sem]; omega)) only [go_sem, get_miss, seval, reduceCtorEq, hT, eq_self_iff_true, not_true_eq_false, decide_false, decide_true, not_false_eq_true, List.append_nil])); (case hx => (simp (disch := first | omega | (simp only [go_sem]; omega)) only [go_sem, get_miss, seval, reduceCtorEq, hT, eq_self_iff_true, not_true_eq_false, decide_false, decide_true, not_false_eq_true, List.append_nil] <;> with_reducible rfl)); (case ha => (simp (disch := first | omega | (simp only [go_sem]; omega)) only [go_sem, get_miss, seval, reduceCtorEq, hT, eq_self_iff_true, not_true_eq_false, decide_false, decide_true, not_false_eq_true, List.append_nil] <;> with_reducible rfl)); (case he => (simp only [go_sem] <;> with_reducible rfl)); (case hcl => (simp)); (case hf => (simp only [go_sem] <;> with_reducible rfl)))
        | (apply aL_pure cxG (h3); (case hg => (simp (disch := first | omega | (simp only [go_sem]; omega)) only [go_sem, get_miss, seval, reduceCtorEq, hT, eq_self_iff_true, not_true_eq_false, decide_false, decide_true, not_false_eq_true, List.append_nil])); (case hx => (simp (disch := first | omega | (simp only [go_sem]; omega)) only [go_sem, get_miss, seval, reduceCtorEq, hT, eq_self_iff_true, not_true_eq_false, decide_false, decide_true, not_false_eq_true, List.append_nil] <;> with_reducible rfl)); (case ha => (simp (disch := first | omega | (simp only [go_sem]; omega)) only [go_sem, get_miss, seval, reduceCtorEq, hT, eq_self_iff_true, not_true_eq_false, decide_false, decide_true, not_false_eq_true, List.append_nil] <;> with_reducible rfl)); (case he => (simp only [go_sem] <;> with_reducible rfl)); (case hcl => (simp)); (case hf => (simp only [go_sem] <;> with_reducible rfl)))
        | (apply aL_pure cxG (h5); (case hg => (simp (disch := first | omega | (simp only [go_sem]; omega)) only [go_sem, get_miss, seval, reduceCtorEq, hT, eq_self_iff_true, not_true_eq_false, decide_false, decide_true, not_false_eq_true, List.append_nil])); (case hx => (simp (disch := first | omega | (simp only [go_sem]; omega)) only [go_sem, get_miss, seval, reduceCtorEq, hT, eq_self_iff_true, not_true_eq_false, decide_false, decide_true, not_false_eq_true, List.append_nil] <;> with_reducible rfl)); (case ha => (simp (disch := first | omega | (simp only [go_sem]; omega)) only [go_sem, get_miss, seval, reduceCtorEq, hT, eq_self_iff_true, not_true_eq_false, decide_false, decide_true, not_false_eq_true, List.append_nil] <;> with_reducible rfl)); (case he => (simp only [go_sem] <;> with_reducible rfl)); (case hcl => (simp)); (case hf => (simp only [go_sem] <;> with_reducible rfl)))
        | (apply aL_pure cxG (hTx); (case hg => (simp (disch := first | omega | (simp only [go_sem]; omega)) only [go_sem, get_miss, seval, reduceCtorEq, hT, eq_self_iff_true, not_true_eq_false, decide_false, decide_true, not_false_eq_true, List.append_nil])); (case hx => (simp (disch := first | omega | (simp only [go_sem]; omega)) only [go_sem, get_miss, seval, reduceCtorEq, hT, eq_self_iff_true, not_true_eq_false, decide_false, decide_true, not_false_eq_true, List.append_nil] <;> with_reducible rfl)); (case ha => (simp (disch := first | omega | (simp only [go_sem]; omega)) only [go_sem, get_miss, seval, reduceCtorEq, hT, eq_self_iff_true, not_true_eq_false, decide_false, decide_true, not_false_eq_true, List.append_nil] <;> with_reducible rfl)); (case he => (simp only [go_sem] <;> with_reducible rfl)); (case hcl => (simp)); (case hf => (simp only [go_sem] <;> with_reducible rfl)))
        | fail)
      all_goals try (first | exact True.intro | exact not_false | omega)
      all_goals try (simp (disch := first | omega | (simp only [go_sem]; omega)) only [go_sem, get_miss, seval, reduceCtorEq] <;> first | exact True.intro | omega)
      all_goals try (exact fun _ _ h => h.elim)
      all_goals try (exact ⟨_, _, rfl, rfl⟩)
      all_goals try (simp (disch := first | omega | (simp only [go_sem]; omega)) only [go_sem, get_miss, seval, reduceCtorEq]; simp; done)
      all_goals try refine aC_regH (U := [(some 69, some 12), (some 72, some 12)]) rfl [] [(7, .cells (.int .u64 0 :: bl [0, 0, 0, 0, 0, 0, 0, 0, 0, 0, 0, 0, 0, 0, 0, 0, 0, 0, 0, 0, 0, 0, 0, 0, 0, 0, 0, 0, 0, 0, 0, 0, 0, 0, 0, 0, 0, 0, 0, 0, 0, 0, 0, 0, 0, 0, 0, 0, 0, 0, 0, 0, 0, 0, 0, 0, 0, 0, 0, 0, 0, 0, 0, 0]) 28)] 1 ?_
      all_goals try simp only [List.replicate]
      all_goals
        repeat' (first
          | refine aLH_nil ?_
          | (apply aLH_step; (· exact True.intro); (· rfl); (· rfl); (· simp (disch := first | omega | (simp only [go_sem]; omega)) only [go_sem, get_miss, seval, reduceCtorEq, hm, hc, ed, List.append_nil]); (· simp (disch := first | omega | (simp only [go_sem]; omega)) only [go_sem, get_miss, seval, reduceCtorEq, hm, hc, ed, List.append_nil] <;> with_reducible rfl); (· simp only [go_sem] <;> with_reducible rfl); (· (intro b hb; first | (cases hb; done) | (simp (disch := first | omega | (simp only [go_sem]; omega)) only [loadBox, go_sem, get_miss, seval, reduceCtorEq] at hb; (try injection hb with hb); subst hb; simp))))
          | (apply aLH_write; (· exact True.intro); (· rfl); (· rfl); (· rfl); (· simp (disch := first | omega | (simp only [go_sem]; omega)) only [go_sem, get_miss, seval, reduceCtorEq, hm, hc, ed, List.append_nil]); (· simp (disch := first | omega | (simp only [go_sem]; omega)) only [go_sem, get_miss, seval, reduceCtorEq, hm, hc, ed, List.append_nil] <;> with_reducible rfl); (· simp only [go_sem] <;> with_reducible rfl); (· simp); (· simp); (· simp))
          | (refine aLH_skip ?_ (by simp only [go_sem] <;> with_reducible rfl) ?_; (· simp (disch := first | omega | (simp only [go_sem]; omega)) only [go_sem, get_miss, seval, reduceCtorEq, hm, hc, ed, List.append_nil]))
          | (apply aLH_alloc 7; (case hg => (simp (disch := first | omega | (simp only [go_sem]; omega)) only [go_sem, get_miss, seval, reduceCtorEq, hm, hc, ed, List.append_nil])); (case hi => (simp (disch := first | omega | (simp only [go_sem]; omega)) only [go_sem, get_miss, seval, reduceCtorEq, hm, hc, ed, List.append_nil] <;> with_reducible rfl)); (case hs => (simp (disch := first | omega | (simp only [go_sem]; omega)) only [go_sem, get_miss, seval, reduceCtorEq, hm, hc, ed, List.append_nil] <;> with_reducible rfl)); (case hS => (simp (disch := first | omega | (simp only [go_sem]; omega)) only [go_sem, get_miss, seval, reduceCtorEq, hm, hc, ed, List.append_nil] <;> with_reducible rfl)); (case hf => (simp only [go_sem] <;> with_reducible rfl)); (case hH => (simp)); (case hk => (simp)))
          | fail)
      all_goals
        repeat' (first
          | refine aC_seq ?_
          | refine aC_reg rfl ?_
          | refine aC_block ?_
          | refine aC_skip ?_
          | refine aC_loop ?_
          | refine aC_scope ?_
          | refine scopeQ_normal ?_
          | refine scopeQ_exit ?_
          | refine scopeQ_ret ?_
          | refine aC_exit ?_
          | refine aC_ret ?_
          | refine thenQ_normal ?_
          | refine blockQ_normal ?_
          | refine thenQ_ret ?_
          | refine blockQ_ret ?_
          | refine thenQ_exit ?_
          | refine blockQ_hit ?_
          | refine blockQ_miss rfl ?_
          | refine aL_nil ?_
          | (apply aL_step; (· exact True.intro); (· simp (disch := first | omega | (simp only [go_sem]; omega)) only [go_sem, get_miss, seval, reduceCtorEq, hT, eq_self_iff_true, not_true_eq_false, decide_false, decide_true, not_false_eq_true, List.append_nil]); (· simp (disch := first | omega | (simp only [go_sem]; omega)) only [go_sem, get_miss, seval, reduceCtorEq, hT, eq_self_iff_true, not_true_eq_false, decide_false, decide_true, not_false_eq_true, List.append_nil] <;> with_reducible rfl); (· simp only [go_sem] <;> with_reducible rfl))
          | (refine aL_skip ?_ (by simp only [go_sem] <;> with_reducible rfl) ?_; (· simp (disch := first | omega | (simp only [go_sem]; omega)) only [go_sem, get_miss, seval, reduceCtorEq, hT, eq_self_iff_true, not_true_eq_false, decide_false, decide_true, not_false_eq_true, List.append_nil]))
          | (apply aL_guardN; (· simp (disch := first | omega | (simp only [go_sem]; omega)) only [go_sem, get_miss, seval, reduceCtorEq, hT, eq_self_iff_true, not_true_eq_false, decide_false, decide_true, not_false_eq_true, List.append_nil] <;> with_reducible rfl); all_goals (intro h; first | (exfalso; omega) | (simp only [h, decide_true, decide_false, not_true, not_false_iff])))
          | (apply aL_guardP; (· simp (disch := first | omega | (simp only [go_sem]; omega)) only [go_sem, get_miss, seval, reduceCtorEq, hT, eq_self_iff_true, not_true_eq_false, decide_false, decide_true, not_false_eq_true, List.append_nil] <;> with_reducible rfl); all_goals (intro h; first | (exfalso; omega) | (simp only [h, decide_true, decide_false, not_true, not_false_iff])))
          | (refine aC_condT ?_ ?_; (· simp (disch := first | omega | (simp only [go_sem]; omega)) only [go_sem, get_miss, seval, reduceCtorEq, hT, eq_self_iff_true, not_true_eq_false, decide_false, decide_true, not_false_eq_true, List.append_nil]))
          | (refine aC_condF ?_ ?_; (· simp (disch := first | omega | (simp only [go_sem]; omega)) only [go_sem, get_miss, seval, reduceCtorEq, hT, eq_self_iff_true, not_true_eq_false, decide_false, decide_true, not_false_eq_true, List.append_nil]))
          | (refine aC_condP (by simp (disch := first | omega | (simp only [go_sem]; omega)) only [go_sem, get_miss, seval, reduceCtorEq, hT, eq_self_iff_true, not_true_eq_false, decide_false, decide_true, not_false_eq_true, List.append_nil] <;> with_reducible rfl) ?_ ?_ <;> (intro h; first | (exfalso; omega) | skip))
          | (apply aL_pure cxG (hTx); (case hg => (simp (disch := first | omega | (simp only [go_sem]; omega)) only [go_sem, get_miss, seval, reduceCtorEq, hT, eq_self_iff_true, not_true_eq_false, decide_false, decide_true, not_false_eq_true, List.append_nil])); (case hx => (simp (disch := first | omega | (simp only [go_sem]; omega)) only [go_sem, get_miss, seval, reduceCtorEq, hT, eq_self_iff_true, not_true_eq_false, decide_false, decide_true, not_false_eq_true, List.append_nil] <;> with_reducible rfl)); (case ha => (simp (disch := first | omega | (simp only [go_sem]; omega)) only [go_sem, get_miss, seval, reduceCtorEq, hT, eq_self_iff_true, not_true_eq_false, decide_false, decide_true, not_false_eq_true, List.append_nil] <;> with_reducible rfl)); (case he => (simp only [go_sem] <;> with_reducible rfl)); (case hcl => (simp)); (case hf => (simp only [go_sem] <;> with_reducible rfl)))
          | fail)
      all_goals try (first | exact True.intro | omega | exact fun _ _ h => h.elim)
      all_goals try (simp (disch := first | omega | (simp only [go_sem]; omega)) only [go_sem, get_miss, seval, reduceCtorEq])
      all_goals try simp
      all_goals try omega
      all_goals (refine ⟨by omega, ?_⟩; rw [hm, hc]; simp)
end
end Go.Am
