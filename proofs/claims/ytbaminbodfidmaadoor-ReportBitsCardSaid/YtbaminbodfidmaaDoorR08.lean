/- Reports: plain laws of bytes; known. -/
import Derived.Test.YtbaminbodfidmaaDoorR06
set_option linter.unusedVariables false
set_option linter.unusedSimpArgs false
namespace Go.Am
open Go Go.Proofs
set_option linter.unusedSimpArgs false
set_option linter.unusedVariables false
set_option maxHeartbeats 8000000
set_option maxRecDepth 100000
section
attribute [local irreducible] aC aL thenQ blockQ scopeQ ALoop AWp

theorem putl_cons (n k : Nat) : putl n (k + 1) = UInt8.ofNat (n % 256) :: putl (n / 256) k := by
  unfold putl
  rw [List.range_succ_eq_map, List.map_cons, List.map_map]
  congr 1
  · simp
  · apply List.map_congr_left
    intro j _
    simp only [Function.comp, Nat.pow_succ]
    rw [Nat.mul_comm (256 ^ j) 256, ← Nat.div_div_eq_div_mul]
theorem putl_getl : ∀ x : List UInt8, putl (getl x) x.length = x
  | [] => rfl
  | b :: r => by
    have hb := b.toNat_lt
    simp only [List.length_cons, getl]
    rw [putl_cons, show (b.toNat + 256 * getl r) % 256 = b.toNat by omega, show (b.toNat + 256 * getl r) / 256 = getl r by omega, putl_getl r]
    simp
theorem getl_putl8 (n : Nat) (hn : n < 18446744073709551616) : getl (putl n 8) = n := by
  have h : ∀ k n : Nat, n < 256 ^ k → getl (putl n k) = n := by
    intro k
    induction k with
    | zero => intro n h; simp at h; subst h; rfl
    | succ k ih =>
      intro n h
      rw [putl_cons]
      simp only [getl]
      rw [ih (n / 256) (by rw [Nat.pow_succ] at h; omega), ofNat_toNat8 _ (Nat.mod_lt _ (by decide))]
      omega
  exact h 8 n (by have e8 : (256 : Nat) ^ 8 = 18446744073709551616 := by decide
                  omega)

theorem rep_bytes_iff (b : List UInt8) (h : b.length = 80) : repB (bI b) (bM b) (bC b) = b ↔ b.take 8 = MARK := by
  have e8 : ((b.take 16).drop 8).length = 8 := by simp; omega
  have e : putl (bI b) 8 = (b.take 16).drop 8 := by
    have := putl_getl ((b.take 16).drop 8)
    rw [e8] at this
    exact this
  have hb : b = b.take 8 ++ ((b.take 16).drop 8 ++ (bM b ++ bC b)) := by
    unfold bM bC
    rw [List.drop_take, List.drop_take]
    conv => lhs; rw [← List.take_append_drop 8 b, ← List.take_append_drop 8 (b.drop 8), List.drop_drop, ← List.take_append_drop 32 (b.drop (8 + 8)), List.drop_drop]
  constructor
  · intro h1
    have := congrArg (List.take 8) h1
    rw [← this]
    unfold repB
    rw [List.take_append_of_le_length (by decide)]
    rfl
  · intro h1
    unfold repB
    rw [e, ← h1]
    exact hb.symm

theorem repB_len {n : Nat} {m c : List UInt8} (hm : m.length = 32) (hc : c.length = 32) : (repB n m c).length = 80 := by simp [repB, MARK, hm, hc]
/-- What a report's bytes are read as. -/
theorem repB_back {n : Nat} {m c : List UInt8} (hn : n < 18446744073709551616) (hm : m.length = 32) (hc : c.length = 32) : bI (repB n m c) = n ∧ bM (repB n m c) = m ∧ bC (repB n m c) = c ∧ (repB n m c).take 8 = MARK := by
  have hp := putl_length n 8
  have hM : MARK.length = 8 := rfl
  refine ⟨?_, ?_, ?_, ?_⟩
  · unfold bI repB
    rw [List.take_append, List.drop_append, hM]
    simp only [Nat.reduceSub]
    rw [List.take_append_of_le_length (by omega), List.take_of_length_le (l := putl n 8) (by omega), List.drop_eq_nil_of_le (by simp [hM]), List.nil_append]
    simp [hM, getl_putl8 n hn]
  · unfold bM repB
    simp [List.take_append, List.drop_append, hM, hp, hm, List.take_of_length_le (l := m) (i := 32) (by omega)]
  · unfold bC repB
    have z1 : MARK.drop 48 = [] := by decide
    have z2 : (putl n 8).drop 40 = [] := List.drop_eq_nil_of_le (by omega)
    simp [List.drop_append, hM, hp, hm, z1, z2]
  · unfold repB
    rw [List.take_append_of_le_length (by decide)]
    rfl
theorem law_num (n : Int) : APure cx 11 [.int .i64 n] (.int .i64 n) := by
  refine pure_fn cxOk Tryd.func11 (by kernel_rfl) (fun _ => false) (fun _ => none) (by kernel_rfl) (Nat.le_of_ble_eq_true (by kernel_rfl)) ?_
  dsimp only [LB, Tryd.f11, lite, nextOf, Option.isNone, Bool.not_true, Bool.not_false, Bool.and_true, Bool.true_and, Bool.false_and, Bool.and_self, Bool.false_eq_true, if_false, if_true, ↓reduceIte, liteO, List.map, Option.map, frame0, List.zipIdx, Nat.reduceAdd]
  try simp only [List.getElem?_toArray, List.getElem?_cons_succ, List.getElem?_cons_zero, Option.bind_some]
  repeat' (first
    | refine aC_seq ?_
    | refine aC_reg rfl ?_
    | refine aC_block ?_
    | refine aC_skip ?_
    | refine aC_loop ?_
    | refine aC_scope ?_
    | refine scopeQ_normal ?_
    | refine scopeQ_exit ?_
    | refine scopeQ_ret ?_
    | refine aC_exit ?_
    | refine aC_ret ?_
    | refine thenQ_normal ?_
    | refine blockQ_normal ?_
    | refine thenQ_ret ?_
    | refine blockQ_ret ?_
    | refine thenQ_exit ?_
    | refine blockQ_hit ?_
    | refine blockQ_miss rfl ?_
    | refine aL_nil ?_
    | (apply aL_step; (· exact True.intro); (· simp (disch := first | omega | (simp only [go_sem]; omega)) only [go_sem, get_miss, seval, reduceCtorEq]); (· simp (disch := first | omega | (simp only [go_sem]; omega)) only [go_sem, get_miss, seval, reduceCtorEq] <;> with_reducible rfl); (· simp only [go_sem] <;> with_reducible rfl))
    | (refine aL_skip ?_ (by simp only [go_sem] <;> with_reducible rfl) ?_; (· simp (disch := first | omega | (simp only [go_sem]; omega)) only [go_sem, get_miss, seval, reduceCtorEq]))
    | (apply aL_guardN; (· simp (disch := first | omega | (simp only [go_sem]; omega)) only [go_sem, get_miss, seval, reduceCtorEq] <;> with_reducible rfl); all_goals (intro h; first | (exfalso; omega) | (simp only [h, decide_true, decide_false, not_true, not_false_iff])))
    | (apply aL_guardP; (· simp (disch := first | omega | (simp only [go_sem]; omega)) only [go_sem, get_miss, seval, reduceCtorEq] <;> with_reducible rfl); all_goals (intro h; first | (exfalso; omega) | (simp only [h, decide_true, decide_false, not_true, not_false_iff])))
    | (refine aC_condT ?_ ?_; (· simp (disch := first | omega | (simp only [go_sem]; omega)) only [go_sem, get_miss, seval, reduceCtorEq]))
    | (refine aC_condF ?_ ?_; (· simp (disch := first | omega | (simp only [go_sem]; omega)) only [go_sem, get_miss, seval, reduceCtorEq]))
    | (refine aC_condP (by simp (disch := first | omega | (simp only [go_sem]; omega)) only [go_sem, get_miss, seval, reduceCtorEq] <;> with_reducible rfl) ?_ ?_ <;> (intro h; first | (exfalso; omega) | skip))
    | fail)
  all_goals try (first | exact True.intro | exact not_false | omega)
  all_goals try (simp (disch := first | omega | (simp only [go_sem]; omega)) only [go_sem, get_miss, seval, reduceCtorEq] <;> first | exact True.intro | omega)
  all_goals try (simp (disch := first | omega | (simp only [go_sem]; omega)) only [go_sem, get_miss, seval, reduceCtorEq])
  all_goals try simp

theorem zer_rep (n : Nat) : List.replicate n (AVal.int .u8 0) = bl (List.replicate n 0) := by simp [bl, bv]
theorem no_rep (n : Nat) (m c : List UInt8) : ¬ IsRep [] n m c := fun h => by
  have := congrArg List.length h.2.2.2
  simp [repT] at this

theorem rep_known : APure cx 8 [] (.bool true) := by
  have hB := report_Bytes 258 Z32 Z32 (by decide) (by decide) (by decide)
  have w0 : (repB 258 Z32 Z32).getD 0 0 = 114 := by decide +kernel
  have w8 : (repB 258 Z32 Z32).getD 8 0 = 2 := by decide +kernel
  have w9 : (repB 258 Z32 Z32).getD 9 0 = 1 := by decide +kernel
  have wl : (repB 258 Z32 Z32).length = 80 := by decide +kernel
  have hz : (List.replicate 80 (0 : UInt8)).take 8 ≠ MARK := by decide
  obtain ⟨n79, h79⟩ : ∃ n : Nat, n = 79 := ⟨_, rfl⟩
  obtain ⟨n80, h80⟩ : ∃ n : Nat, n = 80 := ⟨_, rfl⟩
  have hO1 := report_Of false (List.replicate n79 0) (by simp) (by rw [List.length_replicate]; omega)
  rw [if_neg (by rw [List.length_replicate]; omega)] at hO1
  have hO2 := report_Of false (List.replicate n80 0) (by simp) (by rw [List.length_replicate]; omega)
  rw [if_neg (by rw [h80]; exact fun h => hz h.2)] at hO2
  have e79 := zer_rep n79
  have e80 := zer_rep n80
  conv at e79 => lhs; rw [h79]
  conv at e80 => lhs; rw [h80]
  generalize List.replicate n79 (0 : UInt8) = z79 at *
  generalize List.replicate n80 (0 : UInt8) = z80 at *
  have hU := report_Untext [] (by decide) _ (.inr ⟨no_rep, rfl⟩)
  have hn4 := law_num 4
  have hZ : repZ = .int .u64 0 :: bl (List.replicate 64 0) := rfl
  have hX : repc 258 Z32 Z32 = .int .u64 258 :: bl (List.replicate 64 0) := rfl
  rw [hX] at hB
  simp only [List.reduceReplicate] at hZ hB
  rw [hZ] at hO1 hO2 hU
  generalize repB 258 Z32 Z32 = W at *
  clear hX hZ hz
  refine pure_fn cxOk Tryd.func8 (by kernel_rfl) (fun _ => false) (fe8.q) (by kernel_rfl) (Nat.le_of_ble_eq_true (by kernel_rfl)) ?_
  dsimp only [LB, Tryd.f8, lite, nextOf, Option.isNone, Bool.not_true, Bool.not_false, Bool.and_true, Bool.true_and, Bool.false_and, Bool.and_self, Bool.false_eq_true, if_false, if_true, ↓reduceIte, liteO, List.map, Option.map, frame0, List.zipIdx, Nat.reduceAdd]
  try simp only [List.getElem?_toArray, List.getElem?_cons_succ, List.getElem?_cons_zero, Option.bind_some]
  repeat' (first
    | (apply aL_imm; (case hg => (simp (disch := first | omega | (simp only [go_sem]; omega)) only [go_sem, get_miss, seval, reduceCtorEq, w0, w8, w9, wl, eq_self_iff_true, decide_true])); (case hi => (simp (disch := first | omega | (simp only [go_sem]; omega)) only [go_sem, get_miss, seval, reduceCtorEq, w0, w8, w9, wl, eq_self_iff_true, decide_true] <;> with_reducible rfl)); (case hd => (rfl)); (case hj => (simp (disch := first | omega | (simp only [go_sem]; omega)) only [go_sem, get_miss, seval, reduceCtorEq, w0, w8, w9, wl, eq_self_iff_true, decide_true] <;> with_reducible rfl)); (case hb => (exact ⟨by decide +kernel, by decide +kernel, by decide +kernel⟩)); (case hf => (apply Eq.trans (congrArg (fun z => Fr.put _ _ (AVal.sl _ false z .full)) (e79)); (simp only [go_sem] <;> with_reducible rfl))))
    | (apply aL_imm; (case hg => (simp (disch := first | omega | (simp only [go_sem]; omega)) only [go_sem, get_miss, seval, reduceCtorEq, w0, w8, w9, wl, eq_self_iff_true, decide_true])); (case hi => (simp (disch := first | omega | (simp only [go_sem]; omega)) only [go_sem, get_miss, seval, reduceCtorEq, w0, w8, w9, wl, eq_self_iff_true, decide_true] <;> with_reducible rfl)); (case hd => (rfl)); (case hj => (simp (disch := first | omega | (simp only [go_sem]; omega)) only [go_sem, get_miss, seval, reduceCtorEq, w0, w8, w9, wl, eq_self_iff_true, decide_true] <;> with_reducible rfl)); (case hb => (exact ⟨by decide +kernel, by decide +kernel, by decide +kernel⟩)); (case hf => (apply Eq.trans (congrArg (fun z => Fr.put _ _ (AVal.sl _ false z .full)) (e80)); (simp only [go_sem] <;> with_reducible rfl))))
    | refine aC_seq ?_
    | refine aC_reg rfl ?_
    | refine aC_block ?_
    | refine aC_skip ?_
    | refine aC_loop ?_
    | refine aC_scope ?_
    | refine scopeQ_normal ?_
    | refine scopeQ_exit ?_
    | refine scopeQ_ret ?_
    | refine aC_exit ?_
    | refine aC_ret ?_
    | refine thenQ_normal ?_
    | refine blockQ_normal ?_
    | refine thenQ_ret ?_
    | refine blockQ_ret ?_
    | refine thenQ_exit ?_
    | refine blockQ_hit ?_
    | refine blockQ_miss rfl ?_
    | refine aL_nil ?_
    | (apply aL_step; (· exact True.intro); (· simp (disch := first | omega | (simp only [go_sem]; omega)) only [go_sem, get_miss, seval, reduceCtorEq, w0, w8, w9, wl, eq_self_iff_true, decide_true]); (· simp (disch := first | omega | (simp only [go_sem]; omega)) only [go_sem, get_miss, seval, reduceCtorEq, w0, w8, w9, wl, eq_self_iff_true, decide_true] <;> with_reducible rfl); (· simp only [go_sem] <;> with_reducible rfl))
    | (refine aL_skip ?_ (by simp only [go_sem] <;> with_reducible rfl) ?_; (· simp (disch := first | omega | (simp only [go_sem]; omega)) only [go_sem, get_miss, seval, reduceCtorEq, w0, w8, w9, wl, eq_self_iff_true, decide_true]))
    | (apply aL_guardN; (· simp (disch := first | omega | (simp only [go_sem]; omega)) only [go_sem, get_miss, seval, reduceCtorEq, w0, w8, w9, wl, eq_self_iff_true, decide_true] <;> with_reducible rfl); all_goals (intro h; first | (exfalso; omega) | (simp only [h, decide_true, decide_false, not_true, not_false_iff])))
    | (apply aL_guardP; (· simp (disch := first | omega | (simp only [go_sem]; omega)) only [go_sem, get_miss, seval, reduceCtorEq, w0, w8, w9, wl, eq_self_iff_true, decide_true] <;> with_reducible rfl); all_goals (intro h; first | (exfalso; omega) | (simp only [h, decide_true, decide_false, not_true, not_false_iff])))
    | (refine aC_condT ?_ ?_; (· simp (disch := first | omega | (simp only [go_sem]; omega)) only [go_sem, get_miss, seval, reduceCtorEq, w0, w8, w9, wl, eq_self_iff_true, decide_true]))
    | (refine aC_condF ?_ ?_; (· simp (disch := first | omega | (simp only [go_sem]; omega)) only [go_sem, get_miss, seval, reduceCtorEq, w0, w8, w9, wl, eq_self_iff_true, decide_true]))
    | (refine aC_condP (by simp (disch := first | omega | (simp only [go_sem]; omega)) only [go_sem, get_miss, seval, reduceCtorEq, w0, w8, w9, wl, eq_self_iff_true, decide_true] <;> with_reducible rfl) ?_ ?_ <;> (intro h; first | (exfalso; omega) | skip))
    | (apply aL_pure cxG (hB); (case hg => (simp (disch := first | omega | (simp only [go_sem]; omega)) only [go_sem, get_miss, seval, reduceCtorEq, w0, w8, w9, wl, eq_self_iff_true, decide_true])); (case hx => (simp (disch := first | omega | (simp only [go_sem]; omega)) only [go_sem, get_miss, seval, reduceCtorEq, w0, w8, w9, wl, eq_self_iff_true, decide_true] <;> with_reducible rfl)); (case ha => (simp (disch := first | omega | (simp only [go_sem]; omega)) only [go_sem, get_miss, seval, reduceCtorEq, w0, w8, w9, wl, eq_self_iff_true, decide_true] <;> with_reducible rfl)); (case he => (simp only [go_sem] <;> with_reducible rfl)); (case hcl => (simp)); (case hf => (simp only [go_sem] <;> with_reducible rfl)))
    | (apply aL_pure cxG (hO1); (case hg => (simp (disch := first | omega | (simp only [go_sem]; omega)) only [go_sem, get_miss, seval, reduceCtorEq, w0, w8, w9, wl, eq_self_iff_true, decide_true])); (case hx => (simp (disch := first | omega | (simp only [go_sem]; omega)) only [go_sem, get_miss, seval, reduceCtorEq, w0, w8, w9, wl, eq_self_iff_true, decide_true] <;> with_reducible rfl)); (case ha => (simp (disch := first | omega | (simp only [go_sem]; omega)) only [go_sem, get_miss, seval, reduceCtorEq, w0, w8, w9, wl, eq_self_iff_true, decide_true] <;> with_reducible rfl)); (case he => (simp only [go_sem] <;> with_reducible rfl)); (case hcl => (simp)); (case hf => (simp only [go_sem] <;> with_reducible rfl)))
    | (apply aL_pure cxG (hO2); (case hg => (simp (disch := first | omega | (simp only [go_sem]; omega)) only [go_sem, get_miss, seval, reduceCtorEq, w0, w8, w9, wl, eq_self_iff_true, decide_true])); (case hx => (simp (disch := first | omega | (simp only [go_sem]; omega)) only [go_sem, get_miss, seval, reduceCtorEq, w0, w8, w9, wl, eq_self_iff_true, decide_true] <;> with_reducible rfl)); (case ha => (simp (disch := first | omega | (simp only [go_sem]; omega)) only [go_sem, get_miss, seval, reduceCtorEq, w0, w8, w9, wl, eq_self_iff_true, decide_true] <;> with_reducible rfl)); (case he => (simp only [go_sem] <;> with_reducible rfl)); (case hcl => (simp)); (case hf => (simp only [go_sem] <;> with_reducible rfl)))
    | (apply aL_pure cxG (hU); (case hg => (simp (disch := first | omega | (simp only [go_sem]; omega)) only [go_sem, get_miss, seval, reduceCtorEq, w0, w8, w9, wl, eq_self_iff_true, decide_true])); (case hx => (simp (disch := first | omega | (simp only [go_sem]; omega)) only [go_sem, get_miss, seval, reduceCtorEq, w0, w8, w9, wl, eq_self_iff_true, decide_true] <;> with_reducible rfl)); (case ha => (simp (disch := first | omega | (simp only [go_sem]; omega)) only [go_sem, get_miss, seval, reduceCtorEq, w0, w8, w9, wl, eq_self_iff_true, decide_true] <;> with_reducible rfl)); (case he => (simp only [go_sem] <;> with_reducible rfl)); (case hcl => (simp)); (case hf => (simp only [go_sem] <;> with_reducible rfl)))
    | (apply aL_pure cxG (hn4); (case hg => (simp (disch := first | omega | (simp only [go_sem]; omega)) only [go_sem, get_miss, seval, reduceCtorEq, w0, w8, w9, wl, eq_self_iff_true, decide_true])); (case hx => (simp (disch := first | omega | (simp only [go_sem]; omega)) only [go_sem, get_miss, seval, reduceCtorEq, w0, w8, w9, wl, eq_self_iff_true, decide_true] <;> with_reducible rfl)); (case ha => (simp (disch := first | omega | (simp only [go_sem]; omega)) only [go_sem, get_miss, seval, reduceCtorEq, w0, w8, w9, wl, eq_self_iff_true, decide_true] <;> with_reducible rfl)); (case he => (simp only [go_sem] <;> with_reducible rfl)); (case hcl => (simp)); (case hf => (simp only [go_sem] <;> with_reducible rfl)))
    | (apply aL_pure cxG (report_size); (case hg => (simp (disch := first | omega | (simp only [go_sem]; omega)) only [go_sem, get_miss, seval, reduceCtorEq, w0, w8, w9, wl, eq_self_iff_true, decide_true])); (case hx => (simp (disch := first | omega | (simp only [go_sem]; omega)) only [go_sem, get_miss, seval, reduceCtorEq, w0, w8, w9, wl, eq_self_iff_true, decide_true] <;> with_reducible rfl)); (case ha => (simp (disch := first | omega | (simp only [go_sem]; omega)) only [go_sem, get_miss, seval, reduceCtorEq, w0, w8, w9, wl, eq_self_iff_true, decide_true] <;> with_reducible rfl)); (case he => (simp only [go_sem] <;> with_reducible rfl)); (case hcl => (simp)); (case hf => (simp only [go_sem] <;> with_reducible rfl)))
    | fail)
  all_goals try (first | exact True.intro | exact not_false | omega)
  all_goals try (simp (disch := first | omega | (simp only [go_sem]; omega)) only [go_sem, get_miss, seval, reduceCtorEq] <;> first | exact True.intro | omega)
  all_goals clear hB hO1 hO2 hU hn4
  all_goals try (first | exact True.intro | omega)
  all_goals try (simp (disch := first | omega | (simp only [go_sem]; omega)) only [go_sem, get_miss, seval, reduceCtorEq])
  all_goals try simp
end
end Go.Am
