/- The words of instructions: cpu.Encode, the document's. -/
import Derived.Test.YtbkfnbnechpolaaDoorC06
import Derived.Laws.Bits64b
set_option linter.unusedVariables false
set_option linter.unusedSimpArgs false
namespace Go.Am
open Go Go.Proofs
set_option linter.unusedSimpArgs false
set_option linter.unusedVariables false
set_option maxHeartbeats 4000000
set_option maxRecDepth 100000
attribute [local irreducible] aC aL thenQ blockQ scopeQ ALoop AWp

theorem frm_none {op : Int} (h : op < 1 ∨ 17 < op) : frm op = ([], []) := by
  simp [frm, show op ≠ 1 by omega, show op ≠ 2 by omega, show op ≠ 3 by omega, show op ≠ 4 by omega, show op ≠ 5 by omega, show op ≠ 6 by omega, show op ≠ 7 by omega, show op ≠ 8 by omega, show op ≠ 9 by omega,
    show op ≠ 10 by omega, show op ≠ 11 by omega, show op ≠ 12 by omega, show op ≠ 13 by omega, show op ≠ 14 by omega, show op ≠ 15 by omega, show op ≠ 16 by omega, show op ≠ 17 by omega]

theorem reg_range {p : List UInt8} {c : UInt8} {n : Int} (h : RegOk p c n) : 0 ≤ n ∧ n < 8 := by
  unfold RegOk at h
  omega

theorem may_range {op d a b imm : Int} (h : MayF op d a b imm (frm op).1 (frm op).2) : (1 ≤ op ∧ op ≤ 17) ∧ (0 ≤ d ∧ d < 8) ∧ (0 ≤ a ∧ a < 8) ∧ (0 ≤ b ∧ b < 8) ∧ -2147483648 ≤ imm ∧ imm ≤ 2147483647 := by
  obtain ⟨hne, hd, ha, hb, hi, _⟩ := h
  refine ⟨?_, reg_range hd, reg_range ha, reg_range hb, hi⟩
  by_cases h : op < 1 ∨ 17 < op
  · rw [frm_none h] at hne
    exact absurd rfl hne
  · omega

/-- An instruction's word. -/
def encI (op d a b imm : Int) : Int := op + d * 256 + a * 65536 + b * 16777216 + imm % 4294967296 * 4294967296

theorem or_hi (X Y i : Nat) (hx : X < 2 ^ i) (h2 : Y * 2 ^ i < 18446744073709551616) (h3 : 2 ^ i ≤ 18446744073709551616) : bits .or .u64 (X : Int) ((Y * 2 ^ i : Nat) : Int) = ((X + Y * 2 ^ i : Nat) : Int) := by
  rw [bits_or_u64_nat X (Y * 2 ^ i) (Nat.lt_of_lt_of_le hx h3) h2]
  have k := Nat.shiftLeft_add_eq_or_of_lt hx Y
  rw [Nat.shiftLeft_eq] at k
  rw [Nat.or_comm, ← k, Nat.add_comm]

theorem enc_or {op d a b imm : Int} (ho : 1 ≤ op ∧ op ≤ 17) (hd : 0 ≤ d ∧ d < 8) (ha : 0 ≤ a ∧ a < 8) (hb : 0 ≤ b ∧ b < 8) :
    bits .or .u64 (bits .or .u64 (bits .or .u64 (bits .or .u64 (IntKind.u64.wrap op) (IntKind.u64.wrap (IntKind.u64.wrap d * 256))) (IntKind.u64.wrap (IntKind.u64.wrap a * 65536))) (IntKind.u64.wrap (IntKind.u64.wrap b * 16777216))) (IntKind.u64.wrap (IntKind.u64.wrap imm * 4294967296)) = encI op d a b imm := by
  obtain ⟨O, rfl⟩ := Int.eq_ofNat_of_zero_le (show 0 ≤ op by omega)
  obtain ⟨D, rfl⟩ := Int.eq_ofNat_of_zero_le hd.1
  obtain ⟨A, rfl⟩ := Int.eq_ofNat_of_zero_le ha.1
  obtain ⟨B, rfl⟩ := Int.eq_ofNat_of_zero_le hb.1
  obtain ⟨I, hI⟩ := Int.eq_ofNat_of_zero_le (show 0 ≤ imm % 4294967296 by omega)
  have e1 : IntKind.u64.wrap (O : Int) = ((O : Nat) : Int) := by rw [IntKind.wrap_u64]; omega
  have e2 : IntKind.u64.wrap (IntKind.u64.wrap (D : Int) * 256) = ((D * 2 ^ 8 : Nat) : Int) := by rw [IntKind.wrap_u64, IntKind.wrap_u64]; omega
  have e3 : IntKind.u64.wrap (IntKind.u64.wrap (A : Int) * 65536) = ((A * 2 ^ 16 : Nat) : Int) := by rw [IntKind.wrap_u64, IntKind.wrap_u64]; omega
  have e4 : IntKind.u64.wrap (IntKind.u64.wrap (B : Int) * 16777216) = ((B * 2 ^ 24 : Nat) : Int) := by rw [IntKind.wrap_u64, IntKind.wrap_u64]; omega
  have e5 : IntKind.u64.wrap (IntKind.u64.wrap imm * 4294967296) = ((I * 2 ^ 32 : Nat) : Int) := by rw [IntKind.wrap_u64, IntKind.wrap_u64]; omega
  rw [e1, e2, e3, e4, e5, or_hi O D 8 (by omega) (by omega) (by decide), or_hi _ A 16 (by omega) (by omega) (by decide), or_hi _ B 24 (by omega) (by omega) (by decide), or_hi _ I 32 (by omega) (by omega) (by decide)]
  unfold encI
  rw [hI]
  omega

theorem enc_add {op d a b imm : Int} (ho : 1 ≤ op ∧ op ≤ 17) (hd : 0 ≤ d ∧ d < 8) (ha : 0 ≤ a ∧ a < 8) (hb : 0 ≤ b ∧ b < 8) :
    IntKind.u64.wrap (IntKind.u64.wrap (IntKind.u64.wrap (IntKind.u64.wrap (IntKind.u64.wrap op + IntKind.u64.wrap (IntKind.u64.wrap d * 256)) + IntKind.u64.wrap (IntKind.u64.wrap a * 65536)) + IntKind.u64.wrap (IntKind.u64.wrap b * 16777216)) + IntKind.u64.wrap (IntKind.u64.wrap imm * 4294967296)) = encI op d a b imm := by
  simp only [IntKind.wrap_u64]
  unfold encI
  omega

theorem cpu_Encode (op d a b imm : Int) (h0 : -9223372036854775808 ≤ imm) (h1 : imm ≤ 9223372036854775807) :
    APure cx 19 [.agg [.int .i64 op, .int .i64 d, .int .i64 a, .int .i64 b, .int .i64 imm]]
      (if MayF op d a b imm (frm op).1 (frm op).2 then .tup [.int .u64 (encI op d a b imm), .int .i64 0] else .tup [.int .u64 0, .int .i64 2]) := by
  have hm := cpu_May op d a b imm h0 h1
  by_cases h : MayF op d a b imm (frm op).1 (frm op).2
  case' pos => rw [decide_eq_true h] at hm
  case' neg => rw [decide_eq_false h] at hm
  case' pos => rw [if_pos h, ← enc_or (may_range h).1 (may_range h).2.1 (may_range h).2.2.1 (may_range h).2.2.2.1]
  case' neg => rw [if_neg h]
  all_goals
  refine pure_fn cxOk Tryd.func19 (by kernel_rfl) (fun _ => false) (fun _ => none) (by kernel_rfl) (Nat.le_of_ble_eq_true (by kernel_rfl)) ?_
  dsimp only [LB, Tryd.f19, lite, nextOf, Option.isNone, Bool.not_true, Bool.not_false, Bool.and_true, Bool.true_and, Bool.false_and, Bool.and_self, Bool.false_eq_true, if_false, if_true, ↓reduceIte, liteO, List.map, Option.map, frame0, List.zipIdx, Nat.reduceAdd]
  try simp only [List.getElem?_toArray, List.getElem?_cons_succ, List.getElem?_cons_zero, Option.bind_some]
  repeat' (first
    | refine aC_seq ?_
    | refine aC_reg rfl ?_
    | refine aC_block ?_
    | refine aC_skip ?_
    | refine aC_loop ?_
    | refine aC_scope ?_
    | refine scopeQ_normal ?_
    | refine scopeQ_exit ?_
    | refine scopeQ_ret ?_
    | refine aC_exit ?_
    | refine aC_ret ?_
    | refine thenQ_normal ?_
    | refine blockQ_normal ?_
    | refine thenQ_ret ?_
    | refine blockQ_ret ?_
    | refine thenQ_exit ?_
    | refine blockQ_hit ?_
    | refine blockQ_miss rfl ?_
    | refine aL_nil ?_
    | (apply aL_step; (· exact True.intro); (· simp (disch := first | omega | (simp only [go_sem]; omega)) only [go_sem, get_miss, seval, reduceCtorEq]); (· simp (disch := first | omega | (simp only [go_sem]; omega)) only [go_sem, get_miss, seval, reduceCtorEq] <;> with_reducible rfl); (· simp only [go_sem] <;> with_reducible rfl))
    | (refine aL_skip ?_ (by simp only [go_sem] <;> with_reducible rfl) ?_; (· simp (disch := first | omega | (simp only [go_sem]; omega)) only [go_sem, get_miss, seval, reduceCtorEq]))
    | (apply aL_guardN; (· simp (disch := first | omega | (simp only [go_sem]; omega)) only [go_sem, get_miss, seval, reduceCtorEq] <;> with_reducible rfl); all_goals (intro h; first | (exfalso; omega) | (simp only [h, decide_true, decide_false, not_true, not_false_iff])))
    | (apply aL_guardP; (· simp (disch := first | omega | (simp only [go_sem]; omega)) only [go_sem, get_miss, seval, reduceCtorEq] <;> with_reducible rfl); all_goals (intro h; first | (exfalso; omega) | (simp only [h, decide_true, decide_false, not_true, not_false_iff])))
    | (refine aC_condT ?_ ?_; (· simp (disch := first | omega | (simp only [go_sem]; omega)) only [go_sem, get_miss, seval, reduceCtorEq]))
    | (refine aC_condF ?_ ?_; (· simp (disch := first | omega | (simp only [go_sem]; omega)) only [go_sem, get_miss, seval, reduceCtorEq]))
    | (refine aC_condP (by simp (disch := first | omega | (simp only [go_sem]; omega)) only [go_sem, get_miss, seval, reduceCtorEq] <;> with_reducible rfl) ?_ ?_ <;> (intro h; first | (exfalso; omega) | skip))
    | (apply aL_pure cxG (hm); (case hg => (simp (disch := first | omega | (simp only [go_sem]; omega)) only [go_sem, get_miss, seval, reduceCtorEq])); (case hx => (simp (disch := first | omega | (simp only [go_sem]; omega)) only [go_sem, get_miss, seval, reduceCtorEq] <;> with_reducible rfl)); (case ha => (simp (disch := first | omega | (simp only [go_sem]; omega)) only [go_sem, get_miss, seval, reduceCtorEq] <;> with_reducible rfl)); (case he => (simp only [go_sem] <;> with_reducible rfl)); (case hcl => (simp)); (case hf => (simp only [go_sem] <;> with_reducible rfl)))
    | fail)
  all_goals try (first | exact True.intro | omega)
  all_goals try (simp (disch := first | omega | (simp only [go_sem]; omega)) only [go_sem, get_miss, seval, reduceCtorEq] <;> first | exact True.intro | omega)
  all_goals (clear hm h)
  all_goals try (simp (disch := first | omega | (simp only [go_sem]; omega)) only [go_sem, get_miss, seval, reduceCtorEq])
  all_goals try simp

theorem ref_Encode (op d a b imm : Int) (h : MayF op d a b imm (frm op).1 (frm op).2) :
    APure cx 23 [.agg [.int .i64 op, .int .i64 d, .int .i64 a, .int .i64 b, .int .i64 imm]] (.int .u64 (encI op d a b imm)) := by
  rw [← enc_add (may_range h).1 (may_range h).2.1 (may_range h).2.2.1 (may_range h).2.2.2.1]
  clear h
  refine pure_fn cxOk Tryd.func23 (by kernel_rfl) (fun _ => false) (fun _ => none) (by kernel_rfl) (Nat.le_of_ble_eq_true (by kernel_rfl)) ?_
  dsimp only [LB, Tryd.f23, lite, nextOf, Option.isNone, Bool.not_true, Bool.not_false, Bool.and_true, Bool.true_and, Bool.false_and, Bool.and_self, Bool.false_eq_true, if_false, if_true, ↓reduceIte, liteO, List.map, Option.map, frame0, List.zipIdx, Nat.reduceAdd]
  try simp only [List.getElem?_toArray, List.getElem?_cons_succ, List.getElem?_cons_zero, Option.bind_some]
  repeat' (first
    | refine aC_seq ?_
    | refine aC_reg rfl ?_
    | refine aC_block ?_
    | refine aC_skip ?_
    | refine aC_loop ?_
    | refine aC_scope ?_
    | refine scopeQ_normal ?_
    | refine scopeQ_exit ?_
    | refine scopeQ_ret ?_
    | refine aC_exit ?_
    | refine aC_ret ?_
    | refine thenQ_normal ?_
    | refine blockQ_normal ?_
    | refine thenQ_ret ?_
    | refine blockQ_ret ?_
    | refine thenQ_exit ?_
    | refine blockQ_hit ?_
    | refine blockQ_miss rfl ?_
    | refine aL_nil ?_
    | (apply aL_step; (· exact True.intro); (· simp (disch := first | omega | (simp only [go_sem]; omega)) only [go_sem, get_miss, seval, reduceCtorEq]); (· simp (disch := first | omega | (simp only [go_sem]; omega)) only [go_sem, get_miss, seval, reduceCtorEq] <;> with_reducible rfl); (· simp only [go_sem] <;> with_reducible rfl))
    | (refine aL_skip ?_ (by simp only [go_sem] <;> with_reducible rfl) ?_; (· simp (disch := first | omega | (simp only [go_sem]; omega)) only [go_sem, get_miss, seval, reduceCtorEq]))
    | (apply aL_guardN; (· simp (disch := first | omega | (simp only [go_sem]; omega)) only [go_sem, get_miss, seval, reduceCtorEq] <;> with_reducible rfl); all_goals (intro h; first | (exfalso; omega) | (simp only [h, decide_true, decide_false, not_true, not_false_iff])))
    | (apply aL_guardP; (· simp (disch := first | omega | (simp only [go_sem]; omega)) only [go_sem, get_miss, seval, reduceCtorEq] <;> with_reducible rfl); all_goals (intro h; first | (exfalso; omega) | (simp only [h, decide_true, decide_false, not_true, not_false_iff])))
    | (refine aC_condT ?_ ?_; (· simp (disch := first | omega | (simp only [go_sem]; omega)) only [go_sem, get_miss, seval, reduceCtorEq]))
    | (refine aC_condF ?_ ?_; (· simp (disch := first | omega | (simp only [go_sem]; omega)) only [go_sem, get_miss, seval, reduceCtorEq]))
    | (refine aC_condP (by simp (disch := first | omega | (simp only [go_sem]; omega)) only [go_sem, get_miss, seval, reduceCtorEq] <;> with_reducible rfl) ?_ ?_ <;> (intro h; first | (exfalso; omega) | skip))
    | fail)
  all_goals try (first | exact True.intro | omega)
  all_goals try (simp (disch := first | omega | (simp only [go_sem]; omega)) only [go_sem, get_miss, seval, reduceCtorEq] <;> first | exact True.intro | omega)
  all_goals try (simp (disch := first | omega | (simp only [go_sem]; omega)) only [go_sem, get_miss, seval, reduceCtorEq])
  all_goals try simp
end Go.Am
