/- The laws ReportReads, ReportBack. -/
import Derived.Test.YtbaminbodfidmaaDoorR07
import Derived.Test.YtbaminbodfidmaaDoorR08
set_option linter.unusedVariables false
set_option linter.unusedSimpArgs false
namespace Go.Am
open Go Go.Proofs
set_option linter.unusedSimpArgs false
set_option linter.unusedVariables false
set_option maxHeartbeats 8000000
set_option maxRecDepth 100000
section
attribute [local irreducible] aC aL thenQ blockQ scopeQ ALoop AWp

/-- What the program and the document read of bytes: one report, and whether. -/
theorem both_Of (nl : Bool) (b : List UInt8) (hn : nl = true → b = []) (hl : b.length ≤ 1048576) : ∃ (n : Nat) (y : List UInt8) (e : Int) (k : Bool), y.length = 64 ∧ ((e = 0 ∧ k = true) ∨ (e = 4 ∧ k = false)) ∧
    APure cx 9 [.sl 1 nl (bl b) .any] (.tup [.agg (.int .u64 n :: bl y), .int .i64 e]) ∧ APure cx 10 [.sl 1 nl (bl b) .any] (.tup [.agg (.int .u64 n :: bl y), .bool k]) := by
  have h1 := report_Of nl b hn hl
  by_cases h : b.length = 80
  case neg =>
    rw [if_neg (fun k => h k.1)] at h1
    exact ⟨0, Z32 ++ Z32, 4, false, rfl, .inr ⟨rfl, rfl⟩, h1, ref_Of_short nl b h⟩
  case pos =>
    have h2 := ref_Of nl b h
    have hm : (bM b).length = 32 := by simp [bM]; omega
    have hc : (bC b).length = 32 := by simp [bC]; omega
    have hi := rep_bytes_iff b h
    by_cases h3 : b.take 8 = MARK
    · rw [if_pos ⟨h, h3⟩] at h1
      rw [if_pos (hi.2 h3)] at h2
      exact ⟨bI b, bM b ++ bC b, 0, true, by simp [hm, hc], .inl ⟨rfl, rfl⟩, h1, h2⟩
    · rw [if_neg (fun k => h3 k.2)] at h1
      rw [if_neg (fun k => h3 (hi.1 k))] at h2
      exact ⟨0, Z32 ++ Z32, 4, false, rfl, .inr ⟨rfl, rfl⟩, h1, h2⟩
theorem both_Untext (s : List UInt8) (hs : s.length ≤ 1048576) : ∃ (n : Nat) (y : List UInt8) (e : Int) (k : Bool), y.length = 64 ∧ ((e = 0 ∧ k = true) ∨ (e = 4 ∧ k = false)) ∧
    APure cx 12 [.str s] (.tup [.agg (.int .u64 n :: bl y), .int .i64 e]) ∧ APure cx 13 [.str s] (.tup [.agg (.int .u64 n :: bl y), .bool k]) := by
  by_cases h : ∃ n m c, IsRep s n m c
  · obtain ⟨n, m, c, h⟩ := h
    exact ⟨n, m ++ c, 0, true, by simp [h.2.1, h.2.2.1], .inl ⟨rfl, rfl⟩, report_Untext s hs _ (.inl ⟨n, m, c, h, rfl⟩), ref_Untext s hs _ (.inl ⟨n, m, c, h, rfl⟩)⟩
  · have h' : ∀ n m c, ¬ IsRep s n m c := fun n m c k => h ⟨n, m, c, k⟩
    exact ⟨0, Z32 ++ Z32, 4, false, rfl, .inr ⟨rfl, rfl⟩, report_Untext s hs _ (.inr ⟨h', rfl⟩), ref_Untext s hs _ (.inr ⟨h', rfl⟩)⟩

theorem law_reads (nl : Bool) (b s : List UInt8) (hn : nl = true → b = []) (hb : b.length ≤ 9223372036854775807) (hs : s.length ≤ 9223372036854775807) : APure cx 3 [.sl 1 nl (bl b) .any, .str s] (.bool true) := by
  have hk := rep_known
  by_cases hbig : b.length ≤ 9000 ∧ s.length ≤ 9000
  case neg =>
    refine pure_fn cxOk Tryd.func3 (by kernel_rfl) (fun _ => false) (fe3.q) (by kernel_rfl) (Nat.le_of_ble_eq_true (by kernel_rfl)) ?_
    dsimp only [LB, Tryd.f3, lite, nextOf, Option.isNone, Bool.not_true, Bool.not_false, Bool.and_true, Bool.true_and, Bool.false_and, Bool.and_self, Bool.false_eq_true, if_false, if_true, ↓reduceIte, liteO, List.map, Option.map, frame0, List.zipIdx, Nat.reduceAdd]
    try simp only [List.getElem?_toArray, List.getElem?_cons_succ, List.getElem?_cons_zero, Option.bind_some]
    repeat' (first
      | refine aC_seq ?_
      | refine aC_reg rfl ?_
      | refine aC_block ?_
      | refine aC_skip ?_
      | refine aC_loop ?_
      | refine aC_scope ?_
      | refine scopeQ_normal ?_
      | refine scopeQ_exit ?_
      | refine scopeQ_ret ?_
      | refine aC_exit ?_
      | refine aC_ret ?_
      | refine thenQ_normal ?_
      | refine blockQ_normal ?_
      | refine thenQ_ret ?_
      | refine blockQ_ret ?_
      | refine thenQ_exit ?_
      | refine blockQ_hit ?_
      | refine blockQ_miss rfl ?_
      | refine aL_nil ?_
      | (apply aL_step; (· exact True.intro); (· simp (disch := first | omega | (simp only [go_sem]; omega)) only [go_sem, get_miss, seval, reduceCtorEq]); (· simp (disch := first | omega | (simp only [go_sem]; omega)) only [go_sem, get_miss, seval, reduceCtorEq] <;> with_reducible rfl); (· simp only [go_sem] <;> with_reducible rfl))
      | (refine aL_skip ?_ (by simp only [go_sem] <;> with_reducible rfl) ?_; (· simp (disch := first | omega | (simp only [go_sem]; omega)) only [go_sem, get_miss, seval, reduceCtorEq]))
      | (apply aL_guardN; (· simp (disch := first | omega | (simp only [go_sem]; omega)) only [go_sem, get_miss, seval, reduceCtorEq] <;> with_reducible rfl); all_goals (intro h; first | (exfalso; omega) | (simp only [h, decide_true, decide_false, not_true, not_false_iff])))
      | (apply aL_guardP; (· simp (disch := first | omega | (simp only [go_sem]; omega)) only [go_sem, get_miss, seval, reduceCtorEq] <;> with_reducible rfl); all_goals (intro h; first | (exfalso; omega) | (simp only [h, decide_true, decide_false, not_true, not_false_iff])))
      | (refine aC_condT ?_ ?_; (· simp (disch := first | omega | (simp only [go_sem]; omega)) only [go_sem, get_miss, seval, reduceCtorEq]))
      | (refine aC_condF ?_ ?_; (· simp (disch := first | omega | (simp only [go_sem]; omega)) only [go_sem, get_miss, seval, reduceCtorEq]))
      | (refine aC_condP (by simp (disch := first | omega | (simp only [go_sem]; omega)) only [go_sem, get_miss, seval, reduceCtorEq] <;> with_reducible rfl) ?_ ?_ <;> (intro h; first | (exfalso; omega) | skip))
      | (apply aL_pure cxG (hk); (case hg => (simp (disch := first | omega | (simp only [go_sem]; omega)) only [go_sem, get_miss, seval, reduceCtorEq])); (case hx => (simp (disch := first | omega | (simp only [go_sem]; omega)) only [go_sem, get_miss, seval, reduceCtorEq] <;> with_reducible rfl)); (case ha => (simp (disch := first | omega | (simp only [go_sem]; omega)) only [go_sem, get_miss, seval, reduceCtorEq] <;> with_reducible rfl)); (case he => (simp only [go_sem] <;> with_reducible rfl)); (case hcl => (simp)); (case hf => (simp only [go_sem] <;> with_reducible rfl)))
      | fail)
    all_goals try (first | exact True.intro | exact not_false | omega)
    all_goals try (simp (disch := first | omega | (simp only [go_sem]; omega)) only [go_sem, get_miss, seval, reduceCtorEq] <;> first | exact True.intro | omega)
    all_goals clear hk
    all_goals try (simp (disch := first | omega | (simp only [go_sem]; omega)) only [go_sem, get_miss, seval, reduceCtorEq])
    all_goals try simp
  case pos =>
  obtain ⟨n1, y1, e1, k1, l1, d1, o1, o2⟩ := both_Of nl b hn (by omega)
  obtain ⟨n2, y2, e2, k2, l2, d2, u1, u2⟩ := both_Untext s (by omega)
  have q0 := law_num 0
  have q4 := law_num 4
  rcases d1 with ⟨rfl, rfl⟩ | ⟨rfl, rfl⟩ <;> rcases d2 with ⟨rfl, rfl⟩ | ⟨rfl, rfl⟩
  all_goals
    refine pure_fn cxOk Tryd.func3 (by kernel_rfl) (fun _ => false) (fe3.q) (by kernel_rfl) (Nat.le_of_ble_eq_true (by kernel_rfl)) ?_
    dsimp only [LB, Tryd.f3, lite, nextOf, Option.isNone, Bool.not_true, Bool.not_false, Bool.and_true, Bool.true_and, Bool.false_and, Bool.and_self, Bool.false_eq_true, if_false, if_true, ↓reduceIte, liteO, List.map, Option.map, frame0, List.zipIdx, Nat.reduceAdd]
    try simp only [List.getElem?_toArray, List.getElem?_cons_succ, List.getElem?_cons_zero, Option.bind_some]
    repeat' (first
      | refine aC_seq ?_
      | refine aC_reg rfl ?_
      | refine aC_block ?_
      | refine aC_skip ?_
      | refine aC_loop ?_
      | refine aC_scope ?_
      | refine scopeQ_normal ?_
      | refine scopeQ_exit ?_
      | refine scopeQ_ret ?_
      | refine aC_exit ?_
      | refine aC_ret ?_
      | refine thenQ_normal ?_
      | refine blockQ_normal ?_
      | refine thenQ_ret ?_
      | refine blockQ_ret ?_
      | refine thenQ_exit ?_
      | refine blockQ_hit ?_
      | refine blockQ_miss rfl ?_
      | refine aL_nil ?_
      | (apply aL_step; (· exact True.intro); (· simp (disch := first | omega | (simp only [go_sem]; omega)) only [go_sem, get_miss, seval, reduceCtorEq, eq_self_iff_true, decide_true, decide_false, not_true_eq_false, not_false_eq_true, beq_self_eq_true, bne_self_eq_false, Bool.not_true, Bool.not_false, l1, l2]); (· simp (disch := first | omega | (simp only [go_sem]; omega)) only [go_sem, get_miss, seval, reduceCtorEq, eq_self_iff_true, decide_true, decide_false, not_true_eq_false, not_false_eq_true, beq_self_eq_true, bne_self_eq_false, Bool.not_true, Bool.not_false, l1, l2] <;> with_reducible rfl); (· simp only [go_sem] <;> with_reducible rfl))
      | (refine aL_skip ?_ (by simp only [go_sem] <;> with_reducible rfl) ?_; (· simp (disch := first | omega | (simp only [go_sem]; omega)) only [go_sem, get_miss, seval, reduceCtorEq, eq_self_iff_true, decide_true, decide_false, not_true_eq_false, not_false_eq_true, beq_self_eq_true, bne_self_eq_false, Bool.not_true, Bool.not_false, l1, l2]))
      | (apply aL_guardN; (· simp (disch := first | omega | (simp only [go_sem]; omega)) only [go_sem, get_miss, seval, reduceCtorEq, eq_self_iff_true, decide_true, decide_false, not_true_eq_false, not_false_eq_true, beq_self_eq_true, bne_self_eq_false, Bool.not_true, Bool.not_false, l1, l2] <;> with_reducible rfl); all_goals (intro h; first | (exfalso; omega) | (simp only [h, decide_true, decide_false, not_true, not_false_iff])))
      | (apply aL_guardP; (· simp (disch := first | omega | (simp only [go_sem]; omega)) only [go_sem, get_miss, seval, reduceCtorEq, eq_self_iff_true, decide_true, decide_false, not_true_eq_false, not_false_eq_true, beq_self_eq_true, bne_self_eq_false, Bool.not_true, Bool.not_false, l1, l2] <;> with_reducible rfl); all_goals (intro h; first | (exfalso; omega) | (simp only [h, decide_true, decide_false, not_true, not_false_iff])))
      | (refine aC_condT ?_ ?_; (· simp (disch := first | omega | (simp only [go_sem]; omega)) only [go_sem, get_miss, seval, reduceCtorEq, eq_self_iff_true, decide_true, decide_false, not_true_eq_false, not_false_eq_true, beq_self_eq_true, bne_self_eq_false, Bool.not_true, Bool.not_false, l1, l2]))
      | (refine aC_condF ?_ ?_; (· simp (disch := first | omega | (simp only [go_sem]; omega)) only [go_sem, get_miss, seval, reduceCtorEq, eq_self_iff_true, decide_true, decide_false, not_true_eq_false, not_false_eq_true, beq_self_eq_true, bne_self_eq_false, Bool.not_true, Bool.not_false, l1, l2]))
      | (refine aC_condP (by simp (disch := first | omega | (simp only [go_sem]; omega)) only [go_sem, get_miss, seval, reduceCtorEq, eq_self_iff_true, decide_true, decide_false, not_true_eq_false, not_false_eq_true, beq_self_eq_true, bne_self_eq_false, Bool.not_true, Bool.not_false, l1, l2] <;> with_reducible rfl) ?_ ?_ <;> (intro h; first | (exfalso; omega) | skip))
      | (apply aL_pure cxG (o1); (case hg => (simp (disch := first | omega | (simp only [go_sem]; omega)) only [go_sem, get_miss, seval, reduceCtorEq, eq_self_iff_true, decide_true, decide_false, not_true_eq_false, not_false_eq_true, beq_self_eq_true, bne_self_eq_false, Bool.not_true, Bool.not_false, l1, l2])); (case hx => (simp (disch := first | omega | (simp only [go_sem]; omega)) only [go_sem, get_miss, seval, reduceCtorEq, eq_self_iff_true, decide_true, decide_false, not_true_eq_false, not_false_eq_true, beq_self_eq_true, bne_self_eq_false, Bool.not_true, Bool.not_false, l1, l2] <;> with_reducible rfl)); (case ha => (simp (disch := first | omega | (simp only [go_sem]; omega)) only [go_sem, get_miss, seval, reduceCtorEq, eq_self_iff_true, decide_true, decide_false, not_true_eq_false, not_false_eq_true, beq_self_eq_true, bne_self_eq_false, Bool.not_true, Bool.not_false, l1, l2] <;> with_reducible rfl)); (case he => (simp only [go_sem] <;> with_reducible rfl)); (case hcl => (simp)); (case hf => (simp only [go_sem] <;> with_reducible rfl)))
      | (apply aL_pure cxG (o2); (case hg => (simp (disch := first | omega | (simp only [go_sem]; omega)) only [go_sem, get_miss, seval, reduceCtorEq, eq_self_iff_true, decide_true, decide_false, not_true_eq_false, not_false_eq_true, beq_self_eq_true, bne_self_eq_false, Bool.not_true, Bool.not_false, l1, l2])); (case hx => (simp (disch := first | omega | (simp only [go_sem]; omega)) only [go_sem, get_miss, seval, reduceCtorEq, eq_self_iff_true, decide_true, decide_false, not_true_eq_false, not_false_eq_true, beq_self_eq_true, bne_self_eq_false, Bool.not_true, Bool.not_false, l1, l2] <;> with_reducible rfl)); (case ha => (simp (disch := first | omega | (simp only [go_sem]; omega)) only [go_sem, get_miss, seval, reduceCtorEq, eq_self_iff_true, decide_true, decide_false, not_true_eq_false, not_false_eq_true, beq_self_eq_true, bne_self_eq_false, Bool.not_true, Bool.not_false, l1, l2] <;> with_reducible rfl)); (case he => (simp only [go_sem] <;> with_reducible rfl)); (case hcl => (simp)); (case hf => (simp only [go_sem] <;> with_reducible rfl)))
      | (apply aL_pure cxG (u1); (case hg => (simp (disch := first | omega | (simp only [go_sem]; omega)) only [go_sem, get_miss, seval, reduceCtorEq, eq_self_iff_true, decide_true, decide_false, not_true_eq_false, not_false_eq_true, beq_self_eq_true, bne_self_eq_false, Bool.not_true, Bool.not_false, l1, l2])); (case hx => (simp (disch := first | omega | (simp only [go_sem]; omega)) only [go_sem, get_miss, seval, reduceCtorEq, eq_self_iff_true, decide_true, decide_false, not_true_eq_false, not_false_eq_true, beq_self_eq_true, bne_self_eq_false, Bool.not_true, Bool.not_false, l1, l2] <;> with_reducible rfl)); (case ha => (simp (disch := first | omega | (simp only [go_sem]; omega)) only [go_sem, get_miss, seval, reduceCtorEq, eq_self_iff_true, decide_true, decide_false, not_true_eq_false, not_false_eq_true, beq_self_eq_true, bne_self_eq_false, Bool.not_true, Bool.not_false, l1, l2] <;> with_reducible rfl)); (case he => (simp only [go_sem] <;> with_reducible rfl)); (case hcl => (simp)); (case hf => (simp only [go_sem] <;> with_reducible rfl)))
      | (apply aL_pure cxG (u2); (case hg => (simp (disch := first | omega | (simp only [go_sem]; omega)) only [go_sem, get_miss, seval, reduceCtorEq, eq_self_iff_true, decide_true, decide_false, not_true_eq_false, not_false_eq_true, beq_self_eq_true, bne_self_eq_false, Bool.not_true, Bool.not_false, l1, l2])); (case hx => (simp (disch := first | omega | (simp only [go_sem]; omega)) only [go_sem, get_miss, seval, reduceCtorEq, eq_self_iff_true, decide_true, decide_false, not_true_eq_false, not_false_eq_true, beq_self_eq_true, bne_self_eq_false, Bool.not_true, Bool.not_false, l1, l2] <;> with_reducible rfl)); (case ha => (simp (disch := first | omega | (simp only [go_sem]; omega)) only [go_sem, get_miss, seval, reduceCtorEq, eq_self_iff_true, decide_true, decide_false, not_true_eq_false, not_false_eq_true, beq_self_eq_true, bne_self_eq_false, Bool.not_true, Bool.not_false, l1, l2] <;> with_reducible rfl)); (case he => (simp only [go_sem] <;> with_reducible rfl)); (case hcl => (simp)); (case hf => (simp only [go_sem] <;> with_reducible rfl)))
      | (apply aL_pure cxG (q0); (case hg => (simp (disch := first | omega | (simp only [go_sem]; omega)) only [go_sem, get_miss, seval, reduceCtorEq, eq_self_iff_true, decide_true, decide_false, not_true_eq_false, not_false_eq_true, beq_self_eq_true, bne_self_eq_false, Bool.not_true, Bool.not_false, l1, l2])); (case hx => (simp (disch := first | omega | (simp only [go_sem]; omega)) only [go_sem, get_miss, seval, reduceCtorEq, eq_self_iff_true, decide_true, decide_false, not_true_eq_false, not_false_eq_true, beq_self_eq_true, bne_self_eq_false, Bool.not_true, Bool.not_false, l1, l2] <;> with_reducible rfl)); (case ha => (simp (disch := first | omega | (simp only [go_sem]; omega)) only [go_sem, get_miss, seval, reduceCtorEq, eq_self_iff_true, decide_true, decide_false, not_true_eq_false, not_false_eq_true, beq_self_eq_true, bne_self_eq_false, Bool.not_true, Bool.not_false, l1, l2] <;> with_reducible rfl)); (case he => (simp only [go_sem] <;> with_reducible rfl)); (case hcl => (simp)); (case hf => (simp only [go_sem] <;> with_reducible rfl)))
      | (apply aL_pure cxG (q4); (case hg => (simp (disch := first | omega | (simp only [go_sem]; omega)) only [go_sem, get_miss, seval, reduceCtorEq, eq_self_iff_true, decide_true, decide_false, not_true_eq_false, not_false_eq_true, beq_self_eq_true, bne_self_eq_false, Bool.not_true, Bool.not_false, l1, l2])); (case hx => (simp (disch := first | omega | (simp only [go_sem]; omega)) only [go_sem, get_miss, seval, reduceCtorEq, eq_self_iff_true, decide_true, decide_false, not_true_eq_false, not_false_eq_true, beq_self_eq_true, bne_self_eq_false, Bool.not_true, Bool.not_false, l1, l2] <;> with_reducible rfl)); (case ha => (simp (disch := first | omega | (simp only [go_sem]; omega)) only [go_sem, get_miss, seval, reduceCtorEq, eq_self_iff_true, decide_true, decide_false, not_true_eq_false, not_false_eq_true, beq_self_eq_true, bne_self_eq_false, Bool.not_true, Bool.not_false, l1, l2] <;> with_reducible rfl)); (case he => (simp only [go_sem] <;> with_reducible rfl)); (case hcl => (simp)); (case hf => (simp only [go_sem] <;> with_reducible rfl)))
      | (apply aL_pure cxG (hk); (case hg => (simp (disch := first | omega | (simp only [go_sem]; omega)) only [go_sem, get_miss, seval, reduceCtorEq, eq_self_iff_true, decide_true, decide_false, not_true_eq_false, not_false_eq_true, beq_self_eq_true, bne_self_eq_false, Bool.not_true, Bool.not_false, l1, l2])); (case hx => (simp (disch := first | omega | (simp only [go_sem]; omega)) only [go_sem, get_miss, seval, reduceCtorEq, eq_self_iff_true, decide_true, decide_false, not_true_eq_false, not_false_eq_true, beq_self_eq_true, bne_self_eq_false, Bool.not_true, Bool.not_false, l1, l2] <;> with_reducible rfl)); (case ha => (simp (disch := first | omega | (simp only [go_sem]; omega)) only [go_sem, get_miss, seval, reduceCtorEq, eq_self_iff_true, decide_true, decide_false, not_true_eq_false, not_false_eq_true, beq_self_eq_true, bne_self_eq_false, Bool.not_true, Bool.not_false, l1, l2] <;> with_reducible rfl)); (case he => (simp only [go_sem] <;> with_reducible rfl)); (case hcl => (simp)); (case hf => (simp only [go_sem] <;> with_reducible rfl)))
      | fail)
    all_goals try (first | exact True.intro | exact not_false | omega)
    all_goals try (simp (disch := first | omega | (simp only [go_sem]; omega)) only [go_sem, get_miss, seval, reduceCtorEq] <;> first | exact True.intro | omega)
    all_goals clear hk o1 o2 u1 u2 q0 q4
    all_goals try (simp (disch := first | omega | (simp only [go_sem]; omega)) only [go_sem, get_miss, seval, reduceCtorEq])
    all_goals try simp
  all_goals exact ⟨by kernel_rfl, by kernel_rfl⟩

theorem law_back (n n' : Nat) (m c m' c' : List UInt8) (hn : n < 18446744073709551616) (hm : m.length = 32) (hc : c.length = 32) (hn' : n' < 18446744073709551616) (hm' : m'.length = 32) (hc' : c'.length = 32) :
    APure cx 4 [.agg (repc n m c), .agg (repc n' m' c')] (.bool true) := by
  have hk := rep_known
  have p1 := report_Bytes n m c hn hm hc
  have p2 := report_Bytes n' m' c' hn' hm' hc'
  have hl1 := repB_len (n := n) hm hc
  have hl2 := repB_len (n := n') hm' hc'
  have o := report_Of false (repB n m c) (by simp) (by omega)
  obtain ⟨x1, x2, x3, x4⟩ := repB_back hn hm hc
  rw [if_pos ⟨hl1, x4⟩, x1, x2, x3] at o
  clear x1 x2 x3 x4
  have t1 := report_Text n m c hn hm hc
  have t2 := report_Text n' m' c' hn' hm' hc'
  have ir : IsRep (repT n m c) n m c := ⟨hn, hm, hc, rfl⟩
  have hu := report_Untext (repT n m c) (by have := rep_len ir; omega) _ (.inl ⟨n, m, c, ir, rfl⟩)
  have hsame := ref_same false false (repB n m c) (repB n' m' c') (by omega) (by omega)
  have q0 := law_num 0
  have iB := repB_inj hn hm hc hn' hm' hc'
  have iT : repT n m c = repT n' m' c' ↔ (n = n' ∧ m = m' ∧ c = c') := ⟨fun e => rep_same ir ⟨hn', hm', hc', e⟩, by rintro ⟨rfl, rfl, rfl⟩; rfl⟩
  have iA : (AVal.int .u64 n :: bl (m ++ c) = AVal.int .u64 n' :: bl (m' ++ c')) = (n = n' ∧ m = m' ∧ c = c') := repc_eq hm hm'
  have hmc : (m ++ c).length = 64 := by simp [hm, hc]
  have hmc' : (m' ++ c').length = 64 := by simp [hm', hc']
  unfold repc at *
  have dmc : List.drop (m.length + c.length) (List.replicate 64 (0 : UInt8)) = [] := List.drop_eq_nil_of_le (by simp [hm, hc])
  simp only [List.reduceReplicate] at dmc
  have hdec : (n = n' ∧ m = m' ∧ c = c') ∨ (¬ (n = n' ∧ m = m' ∧ c = c') ∧ decide (repB n m c = repB n' m' c') = false ∧ (repT n m c = repT n' m' c') = False ∧ (AVal.int .u64 n :: bl (m ++ c) = AVal.int .u64 n' :: bl (m' ++ c')) = False) := by
    by_cases hE : n = n' ∧ m = m' ∧ c = c'
    · exact .inl hE
    · exact .inr ⟨hE, decide_eq_false fun k => hE (iB.1 k), eq_false fun k => hE (iT.1 k), by rw [iA]; exact eq_false hE⟩
  clear iA iB iT ir
  rcases hdec with ⟨rfl, rfl, rfl⟩ | ⟨_, hB, hT, hA⟩
  case' inl => rw [decide_eq_true rfl] at hsame; clear p2 t2; have p2 := True.intro; have t2 := True.intro; have hA := True.intro; have hT := True.intro
  case' inr => rw [hB] at hsame; clear hB
  case' inl => generalize repB n m c = W at *; generalize repT n m c = T at *
  case' inr => generalize repB n m c = W at *; generalize repT n m c = T at *; generalize repB n' m' c' = W' at *; generalize repT n' m' c' = T' at *
  all_goals
    refine pure_fn cxOk Tryd.func4 (by kernel_rfl) (fun _ => false) (fe4.q) (by kernel_rfl) (Nat.le_of_ble_eq_true (by kernel_rfl)) ?_
    dsimp only [LB, Tryd.f4, lite, nextOf, Option.isNone, Bool.not_true, Bool.not_false, Bool.and_true, Bool.true_and, Bool.false_and, Bool.and_self, Bool.false_eq_true, if_false, if_true, ↓reduceIte, liteO, List.map, Option.map, frame0, List.zipIdx, Nat.reduceAdd]
    try simp only [List.getElem?_toArray, List.getElem?_cons_succ, List.getElem?_cons_zero, Option.bind_some]
    repeat' (first
      | (apply aL_boxI; (case hg => (simp (disch := first | omega | (simp only [go_sem]; omega)) only [go_sem, get_miss, seval, reduceCtorEq, Bool.not_true])); (case h => (simp (disch := first | omega | (simp only [go_sem]; omega)) only [go_sem, get_miss, seval, reduceCtorEq, Bool.not_true] <;> with_reducible rfl)); (case hf => (simp only [go_sem] <;> with_reducible rfl)); (case hs => (simp (disch := first | omega | (simp only [go_sem]; omega)) only [go_sem, get_miss, seval, reduceCtorEq, Bool.not_true])))
      | refine aC_seq ?_
      | refine aC_reg rfl ?_
      | refine aC_block ?_
      | refine aC_skip ?_
      | refine aC_loop ?_
      | refine aC_scope ?_
      | refine scopeQ_normal ?_
      | refine scopeQ_exit ?_
      | refine scopeQ_ret ?_
      | refine aC_exit ?_
      | refine aC_ret ?_
      | refine thenQ_normal ?_
      | refine blockQ_normal ?_
      | refine thenQ_ret ?_
      | refine blockQ_ret ?_
      | refine thenQ_exit ?_
      | refine blockQ_hit ?_
      | refine blockQ_miss rfl ?_
      | refine aL_nil ?_
      | (apply aL_step; (· exact True.intro); (· simp (disch := first | omega | (simp only [go_sem]; omega)) only [go_sem, get_miss, seval, reduceCtorEq, Bool.not_true]); (· simp (disch := first | omega | (simp only [go_sem]; omega)) only [go_sem, get_miss, seval, reduceCtorEq, Bool.not_true] <;> with_reducible rfl); (· simp only [go_sem] <;> with_reducible rfl))
      | (refine aL_skip ?_ (by simp only [go_sem] <;> with_reducible rfl) ?_; (· simp (disch := first | omega | (simp only [go_sem]; omega)) only [go_sem, get_miss, seval, reduceCtorEq, Bool.not_true]))
      | (apply aL_guardN; (· simp (disch := first | omega | (simp only [go_sem]; omega)) only [go_sem, get_miss, seval, reduceCtorEq, Bool.not_true] <;> with_reducible rfl); all_goals (intro h; first | (exfalso; omega) | (simp only [h, decide_true, decide_false, not_true, not_false_iff])))
      | (apply aL_guardP; (· simp (disch := first | omega | (simp only [go_sem]; omega)) only [go_sem, get_miss, seval, reduceCtorEq, Bool.not_true] <;> with_reducible rfl); all_goals (intro h; first | (exfalso; omega) | (simp only [h, decide_true, decide_false, not_true, not_false_iff])))
      | (refine aC_condT ?_ ?_; (· simp (disch := first | omega | (simp only [go_sem]; omega)) only [go_sem, get_miss, seval, reduceCtorEq, Bool.not_true]))
      | (refine aC_condF ?_ ?_; (· simp (disch := first | omega | (simp only [go_sem]; omega)) only [go_sem, get_miss, seval, reduceCtorEq, Bool.not_true]))
      | (refine aC_condP (by simp (disch := first | omega | (simp only [go_sem]; omega)) only [go_sem, get_miss, seval, reduceCtorEq, Bool.not_true] <;> with_reducible rfl) ?_ ?_ <;> (intro h; first | (exfalso; omega) | skip))
      | (apply aL_pure cxG (hk); (case hg => (simp (disch := first | omega | (simp only [go_sem]; omega)) only [go_sem, get_miss, seval, reduceCtorEq, Bool.not_true])); (case hx => (simp (disch := first | omega | (simp only [go_sem]; omega)) only [go_sem, get_miss, seval, reduceCtorEq, Bool.not_true] <;> with_reducible rfl)); (case ha => (simp (disch := first | omega | (simp only [go_sem]; omega)) only [go_sem, get_miss, seval, reduceCtorEq, Bool.not_true] <;> with_reducible rfl)); (case he => (simp only [go_sem] <;> with_reducible rfl)); (case hcl => (simp)); (case hf => (simp only [go_sem] <;> with_reducible rfl)))
      | fail)
    all_goals try (first | exact True.intro | exact not_false | omega)
    all_goals try (simp (disch := first | omega | (simp only [go_sem]; omega)) only [go_sem, get_miss, seval, reduceCtorEq] <;> first | exact True.intro | omega)
    refine aC_regB (U := [(some 15, some 14)]) rfl [] ?_
    repeat' (first
      | refine aLB_nil ?_
      | (apply aLB_step; (· exact True.intro); (· exact (by intro h; cases h)); (· rfl); (· simp (disch := first | omega | (simp only [go_sem]; omega)) only [go_sem, get_miss, seval, reduceCtorEq]); (· simp (disch := first | omega | (simp only [go_sem]; omega)) only [go_sem, get_miss, seval, reduceCtorEq] <;> with_reducible rfl); (· simp only [go_sem] <;> with_reducible rfl); (· (intro b hb; first | (cases hb; done) | (simp (disch := first | omega | (simp only [go_sem]; omega)) only [loadBox, go_sem, get_miss, seval, reduceCtorEq] at hb; (try injection hb with hb); subst hb; simp))))
      | (apply aLB_write; (· exact True.intro); (· rfl); (· rfl); (· simp (disch := first | omega | (simp only [go_sem]; omega)) only [go_sem, get_miss, seval, reduceCtorEq]); (· simp (disch := first | omega | (simp only [go_sem]; omega)) only [go_sem, get_miss, seval, reduceCtorEq] <;> with_reducible rfl); (· simp only [go_sem] <;> with_reducible rfl); (· simp))
      | (refine aLB_skip ?_ (by simp only [go_sem] <;> with_reducible rfl) ?_; (· simp (disch := first | omega | (simp only [go_sem]; omega)) only [go_sem, get_miss, seval, reduceCtorEq]))
      | (apply aLB_pure cxG (p1); (case hg => (simp (disch := first | omega | (simp only [go_sem]; omega)) only [go_sem, get_miss, seval, reduceCtorEq])); (case hx => (simp (disch := first | omega | (simp only [go_sem]; omega)) only [go_sem, get_miss, seval, reduceCtorEq] <;> with_reducible rfl)); (case ha => (simp (disch := first | omega | (simp only [go_sem]; omega)) only [go_sem, get_miss, seval, reduceCtorEq] <;> with_reducible rfl)); (case he => (simp only [go_sem] <;> with_reducible rfl)); (case hcl => (simp)); (case hf => (simp only [go_sem] <;> with_reducible rfl)))
      | (apply aLB_pure cxG (p2); (case hg => (simp (disch := first | omega | (simp only [go_sem]; omega)) only [go_sem, get_miss, seval, reduceCtorEq])); (case hx => (simp (disch := first | omega | (simp only [go_sem]; omega)) only [go_sem, get_miss, seval, reduceCtorEq] <;> with_reducible rfl)); (case ha => (simp (disch := first | omega | (simp only [go_sem]; omega)) only [go_sem, get_miss, seval, reduceCtorEq] <;> with_reducible rfl)); (case he => (simp only [go_sem] <;> with_reducible rfl)); (case hcl => (simp)); (case hf => (simp only [go_sem] <;> with_reducible rfl)))
      | fail)
    repeat' (first
      | refine aC_seq ?_
      | refine aC_reg rfl ?_
      | refine aC_block ?_
      | refine aC_skip ?_
      | refine aC_loop ?_
      | refine aC_scope ?_
      | refine scopeQ_normal ?_
      | refine scopeQ_exit ?_
      | refine scopeQ_ret ?_
      | refine aC_exit ?_
      | refine aC_ret ?_
      | refine thenQ_normal ?_
      | refine blockQ_normal ?_
      | refine thenQ_ret ?_
      | refine blockQ_ret ?_
      | refine thenQ_exit ?_
      | refine blockQ_hit ?_
      | refine blockQ_miss rfl ?_
      | refine aL_nil ?_
      | (apply aL_step; (· exact True.intro); (· simp (disch := first | omega | (simp only [go_sem]; omega)) only [go_sem, get_miss, seval, reduceCtorEq, dmc, List.append_nil]); (· simp (disch := first | omega | (simp only [go_sem]; omega)) only [go_sem, get_miss, seval, reduceCtorEq, dmc, List.append_nil] <;> with_reducible rfl); (· simp only [go_sem] <;> with_reducible rfl))
      | (refine aL_skip ?_ (by simp only [go_sem] <;> with_reducible rfl) ?_; (· simp (disch := first | omega | (simp only [go_sem]; omega)) only [go_sem, get_miss, seval, reduceCtorEq, dmc, List.append_nil]))
      | (apply aL_guardN; (· simp (disch := first | omega | (simp only [go_sem]; omega)) only [go_sem, get_miss, seval, reduceCtorEq, dmc, List.append_nil] <;> with_reducible rfl); all_goals (intro h; first | (exfalso; omega) | (simp only [h, decide_true, decide_false, not_true, not_false_iff])))
      | (apply aL_guardP; (· simp (disch := first | omega | (simp only [go_sem]; omega)) only [go_sem, get_miss, seval, reduceCtorEq, dmc, List.append_nil] <;> with_reducible rfl); all_goals (intro h; first | (exfalso; omega) | (simp only [h, decide_true, decide_false, not_true, not_false_iff])))
      | (refine aC_condT ?_ ?_; (· simp (disch := first | omega | (simp only [go_sem]; omega)) only [go_sem, get_miss, seval, reduceCtorEq, dmc, List.append_nil]))
      | (refine aC_condF ?_ ?_; (· simp (disch := first | omega | (simp only [go_sem]; omega)) only [go_sem, get_miss, seval, reduceCtorEq, dmc, List.append_nil]))
      | (refine aC_condP (by simp (disch := first | omega | (simp only [go_sem]; omega)) only [go_sem, get_miss, seval, reduceCtorEq, dmc, List.append_nil] <;> with_reducible rfl) ?_ ?_ <;> (intro h; first | (exfalso; omega) | skip))
      | (apply aL_pure cxG (o); (case hg => (simp (disch := first | omega | (simp only [go_sem]; omega)) only [go_sem, get_miss, seval, reduceCtorEq, dmc, List.append_nil])); (case hx => (simp (disch := first | omega | (simp only [go_sem]; omega)) only [go_sem, get_miss, seval, reduceCtorEq, dmc, List.append_nil] <;> with_reducible rfl)); (case ha => (simp (disch := first | omega | (simp only [go_sem]; omega)) only [go_sem, get_miss, seval, reduceCtorEq, dmc, List.append_nil] <;> with_reducible rfl)); (case he => (simp only [go_sem] <;> with_reducible rfl)); (case hcl => (simp)); (case hf => (simp only [go_sem] <;> with_reducible rfl)))
      | (apply aL_pure cxG (t1); (case hg => (simp (disch := first | omega | (simp only [go_sem]; omega)) only [go_sem, get_miss, seval, reduceCtorEq, dmc, List.append_nil])); (case hx => (simp (disch := first | omega | (simp only [go_sem]; omega)) only [go_sem, get_miss, seval, reduceCtorEq, dmc, List.append_nil] <;> with_reducible rfl)); (case ha => (simp (disch := first | omega | (simp only [go_sem]; omega)) only [go_sem, get_miss, seval, reduceCtorEq, dmc, List.append_nil] <;> with_reducible rfl)); (case he => (simp only [go_sem] <;> with_reducible rfl)); (case hcl => (simp)); (case hf => (simp only [go_sem] <;> with_reducible rfl)))
      | (apply aL_pure cxG (hu); (case hg => (simp (disch := first | omega | (simp only [go_sem]; omega)) only [go_sem, get_miss, seval, reduceCtorEq, dmc, List.append_nil])); (case hx => (simp (disch := first | omega | (simp only [go_sem]; omega)) only [go_sem, get_miss, seval, reduceCtorEq, dmc, List.append_nil] <;> with_reducible rfl)); (case ha => (simp (disch := first | omega | (simp only [go_sem]; omega)) only [go_sem, get_miss, seval, reduceCtorEq, dmc, List.append_nil] <;> with_reducible rfl)); (case he => (simp only [go_sem] <;> with_reducible rfl)); (case hcl => (simp)); (case hf => (simp only [go_sem] <;> with_reducible rfl)))
      | fail)
    all_goals try (first | exact True.intro | exact not_false | omega)
    all_goals try (simp (disch := first | omega | (simp only [go_sem]; omega)) only [go_sem, get_miss, seval, reduceCtorEq] <;> first | exact True.intro | omega)
    all_goals try (exact fun _ _ h => h.elim)
    refine aC_regB (U := [(some 48, some 47), (some 49, some 47), (some 56, some 55), (some 59, some 55), (some 59, some 57), (some 60, some 55), (some 60, some 57)]) rfl [(some 35, 0), (some 40, 1)] ?_
    repeat' (first
      | refine aLB_nil ?_
      | (apply aLB_step; (· exact True.intro); (· exact (by intro h; cases h)); (· rfl); (· simp (disch := first | omega | (simp only [go_sem]; omega)) only [go_sem, get_miss, seval, reduceCtorEq, hA, hT, hl1, eq_self_iff_true, decide_true, decide_false, beq_self_eq_true, hm, hc, hm', hc']); (· simp (disch := first | omega | (simp only [go_sem]; omega)) only [go_sem, get_miss, seval, reduceCtorEq, hA, hT, hl1, eq_self_iff_true, decide_true, decide_false, beq_self_eq_true, hm, hc, hm', hc'] <;> with_reducible rfl); (· simp only [go_sem] <;> with_reducible rfl); (· (intro b hb; first | (cases hb; done) | (simp (disch := first | omega | (simp only [go_sem]; omega)) only [loadBox, go_sem, get_miss, seval, reduceCtorEq] at hb; (try injection hb with hb); subst hb; simp))))
      | (apply aLB_write; (· exact True.intro); (· rfl); (· rfl); (· simp (disch := first | omega | (simp only [go_sem]; omega)) only [go_sem, get_miss, seval, reduceCtorEq, hA, hT, hl1, eq_self_iff_true, decide_true, decide_false, beq_self_eq_true, hm, hc, hm', hc']); (· simp (disch := first | omega | (simp only [go_sem]; omega)) only [go_sem, get_miss, seval, reduceCtorEq, hA, hT, hl1, eq_self_iff_true, decide_true, decide_false, beq_self_eq_true, hm, hc, hm', hc'] <;> with_reducible rfl); (· simp only [go_sem] <;> with_reducible rfl); (· simp))
      | (refine aLB_skip ?_ (by simp only [go_sem] <;> with_reducible rfl) ?_; (· simp (disch := first | omega | (simp only [go_sem]; omega)) only [go_sem, get_miss, seval, reduceCtorEq, hA, hT, hl1, eq_self_iff_true, decide_true, decide_false, beq_self_eq_true, hm, hc, hm', hc']))
      | (apply aLB_pure cxG (q0); (case hg => (simp (disch := first | omega | (simp only [go_sem]; omega)) only [go_sem, get_miss, seval, reduceCtorEq, hA, hT, hl1, eq_self_iff_true, decide_true, decide_false, beq_self_eq_true, hm, hc, hm', hc'])); (case hx => (simp (disch := first | omega | (simp only [go_sem]; omega)) only [go_sem, get_miss, seval, reduceCtorEq, hA, hT, hl1, eq_self_iff_true, decide_true, decide_false, beq_self_eq_true, hm, hc, hm', hc'] <;> with_reducible rfl)); (case ha => (simp (disch := first | omega | (simp only [go_sem]; omega)) only [go_sem, get_miss, seval, reduceCtorEq, hA, hT, hl1, eq_self_iff_true, decide_true, decide_false, beq_self_eq_true, hm, hc, hm', hc'] <;> with_reducible rfl)); (case he => (simp only [go_sem] <;> with_reducible rfl)); (case hcl => (simp)); (case hf => (simp only [go_sem] <;> with_reducible rfl)))
      | (apply aLB_pure cxG (hsame); (case hg => (simp (disch := first | omega | (simp only [go_sem]; omega)) only [go_sem, get_miss, seval, reduceCtorEq, hA, hT, hl1, eq_self_iff_true, decide_true, decide_false, beq_self_eq_true, hm, hc, hm', hc'])); (case hx => (simp (disch := first | omega | (simp only [go_sem]; omega)) only [go_sem, get_miss, seval, reduceCtorEq, hA, hT, hl1, eq_self_iff_true, decide_true, decide_false, beq_self_eq_true, hm, hc, hm', hc'] <;> with_reducible rfl)); (case ha => (simp (disch := first | omega | (simp only [go_sem]; omega)) only [go_sem, get_miss, seval, reduceCtorEq, hA, hT, hl1, eq_self_iff_true, decide_true, decide_false, beq_self_eq_true, hm, hc, hm', hc'] <;> with_reducible rfl)); (case he => (simp only [go_sem] <;> with_reducible rfl)); (case hcl => (simp)); (case hf => (simp only [go_sem] <;> with_reducible rfl)))
      | (apply aLB_pure cxG (t1); (case hg => (simp (disch := first | omega | (simp only [go_sem]; omega)) only [go_sem, get_miss, seval, reduceCtorEq, hA, hT, hl1, eq_self_iff_true, decide_true, decide_false, beq_self_eq_true, hm, hc, hm', hc'])); (case hx => (simp (disch := first | omega | (simp only [go_sem]; omega)) only [go_sem, get_miss, seval, reduceCtorEq, hA, hT, hl1, eq_self_iff_true, decide_true, decide_false, beq_self_eq_true, hm, hc, hm', hc'] <;> with_reducible rfl)); (case ha => (simp (disch := first | omega | (simp only [go_sem]; omega)) only [go_sem, get_miss, seval, reduceCtorEq, hA, hT, hl1, eq_self_iff_true, decide_true, decide_false, beq_self_eq_true, hm, hc, hm', hc'] <;> with_reducible rfl)); (case he => (simp only [go_sem] <;> with_reducible rfl)); (case hcl => (simp)); (case hf => (simp only [go_sem] <;> with_reducible rfl)))
      | (apply aLB_pure cxG (t2); (case hg => (simp (disch := first | omega | (simp only [go_sem]; omega)) only [go_sem, get_miss, seval, reduceCtorEq, hA, hT, hl1, eq_self_iff_true, decide_true, decide_false, beq_self_eq_true, hm, hc, hm', hc'])); (case hx => (simp (disch := first | omega | (simp only [go_sem]; omega)) only [go_sem, get_miss, seval, reduceCtorEq, hA, hT, hl1, eq_self_iff_true, decide_true, decide_false, beq_self_eq_true, hm, hc, hm', hc'] <;> with_reducible rfl)); (case ha => (simp (disch := first | omega | (simp only [go_sem]; omega)) only [go_sem, get_miss, seval, reduceCtorEq, hA, hT, hl1, eq_self_iff_true, decide_true, decide_false, beq_self_eq_true, hm, hc, hm', hc'] <;> with_reducible rfl)); (case he => (simp only [go_sem] <;> with_reducible rfl)); (case hcl => (simp)); (case hf => (simp only [go_sem] <;> with_reducible rfl)))
      | (apply aLB_pure cxG (report_size); (case hg => (simp (disch := first | omega | (simp only [go_sem]; omega)) only [go_sem, get_miss, seval, reduceCtorEq, hA, hT, hl1, eq_self_iff_true, decide_true, decide_false, beq_self_eq_true, hm, hc, hm', hc'])); (case hx => (simp (disch := first | omega | (simp only [go_sem]; omega)) only [go_sem, get_miss, seval, reduceCtorEq, hA, hT, hl1, eq_self_iff_true, decide_true, decide_false, beq_self_eq_true, hm, hc, hm', hc'] <;> with_reducible rfl)); (case ha => (simp (disch := first | omega | (simp only [go_sem]; omega)) only [go_sem, get_miss, seval, reduceCtorEq, hA, hT, hl1, eq_self_iff_true, decide_true, decide_false, beq_self_eq_true, hm, hc, hm', hc'] <;> with_reducible rfl)); (case he => (simp only [go_sem] <;> with_reducible rfl)); (case hcl => (simp)); (case hf => (simp only [go_sem] <;> with_reducible rfl)))
      | fail)
    repeat' (first
      | refine aC_seq ?_
      | refine aC_reg rfl ?_
      | refine aC_block ?_
      | refine aC_skip ?_
      | refine aC_loop ?_
      | refine aC_scope ?_
      | refine scopeQ_normal ?_
      | refine scopeQ_exit ?_
      | refine scopeQ_ret ?_
      | refine aC_exit ?_
      | refine aC_ret ?_
      | refine thenQ_normal ?_
      | refine blockQ_normal ?_
      | refine thenQ_ret ?_
      | refine blockQ_ret ?_
      | refine thenQ_exit ?_
      | refine blockQ_hit ?_
      | refine blockQ_miss rfl ?_
      | refine aL_nil ?_
      | (apply aL_step; (· exact True.intro); (· simp (disch := first | omega | (simp only [go_sem]; omega)) only [go_sem, get_miss, seval, reduceCtorEq]); (· simp (disch := first | omega | (simp only [go_sem]; omega)) only [go_sem, get_miss, seval, reduceCtorEq] <;> with_reducible rfl); (· simp only [go_sem] <;> with_reducible rfl))
      | (refine aL_skip ?_ (by simp only [go_sem] <;> with_reducible rfl) ?_; (· simp (disch := first | omega | (simp only [go_sem]; omega)) only [go_sem, get_miss, seval, reduceCtorEq]))
      | (apply aL_guardN; (· simp (disch := first | omega | (simp only [go_sem]; omega)) only [go_sem, get_miss, seval, reduceCtorEq] <;> with_reducible rfl); all_goals (intro h; first | (exfalso; omega) | (simp only [h, decide_true, decide_false, not_true, not_false_iff])))
      | (apply aL_guardP; (· simp (disch := first | omega | (simp only [go_sem]; omega)) only [go_sem, get_miss, seval, reduceCtorEq] <;> with_reducible rfl); all_goals (intro h; first | (exfalso; omega) | (simp only [h, decide_true, decide_false, not_true, not_false_iff])))
      | (refine aC_condT ?_ ?_; (· simp (disch := first | omega | (simp only [go_sem]; omega)) only [go_sem, get_miss, seval, reduceCtorEq]))
      | (refine aC_condF ?_ ?_; (· simp (disch := first | omega | (simp only [go_sem]; omega)) only [go_sem, get_miss, seval, reduceCtorEq]))
      | (refine aC_condP (by simp (disch := first | omega | (simp only [go_sem]; omega)) only [go_sem, get_miss, seval, reduceCtorEq] <;> with_reducible rfl) ?_ ?_ <;> (intro h; first | (exfalso; omega) | skip))
      | fail)
    all_goals clear o p1 p2 t1 t2 hu hsame q0 hk
    all_goals try (first | exact True.intro | omega)
    all_goals try (simp (disch := first | omega | (simp only [go_sem]; omega)) only [go_sem, get_miss, seval, reduceCtorEq, hm, hc, hm', hc'])
    all_goals try simp
    all_goals exact ⟨by kernel_rfl, by kernel_rfl⟩
end
end Go.Am
