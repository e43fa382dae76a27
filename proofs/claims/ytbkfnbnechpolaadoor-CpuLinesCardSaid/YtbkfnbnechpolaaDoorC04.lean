/- cpu.forms, cpu.May. -/
import Derived.Test.YtbkfnbnechpolaaDoorC03
import Derived.Test.YtbkfnbnechpolaaDoorAmWalkB
import Derived.Test.YtbkfnbnechpolaaDoorAmFreshZ
import Derived.Laws.Bits64b
section
set_option linter.unusedVariables false
set_option linter.unusedSimpArgs false
namespace Go.Am
open Go Go.Proofs
set_option linter.unusedSimpArgs false
set_option linter.unusedVariables false
set_option maxHeartbeats 4000000
set_option maxRecDepth 100000
attribute [local irreducible] aC aL thenQ blockQ scopeQ ALoop AWp

def fm (op : Int) (w p : List UInt8) : AVal × AVal := (.int .i64 op, .agg [.str w, .str p])
def FORMS : List (AVal × AVal) := [fm 1 [110, 111, 112] [], fm 2 [115, 101, 116] [100, 105], fm 3 [109, 111, 118] [100, 97], fm 11 [108, 111, 97, 100] [100, 97, 105], fm 12 [115, 116, 111, 114, 101] [97, 98, 105],
  fm 13 [106, 117, 109, 112] [105], fm 14 [98, 114, 97, 110, 99, 104] [97, 105], fm 15 [101, 110, 116, 114, 111, 112, 121] [100], fm 16 [115, 101, 114, 118, 105, 99, 101] [105], fm 17 [115, 116, 111, 112] [],
  fm 4 [97, 100, 100] [100, 97, 98], fm 5 [115, 117, 98] [100, 97, 98], fm 6 [120, 111, 114] [100, 97, 98], fm 7 [97, 110, 100] [100, 97, 98], fm 8 [109, 117, 108] [100, 97, 98], fm 9 [115, 104, 108] [100, 97, 98], fm 10 [115, 104, 114] [100, 97, 98]]

theorem cpu_forms (S : St) : ACall cx 32 [] S (.map S.length) (S ++ [.mpx FORMS 17]) :=
  xACallZ_ok tabOk 1000 (e := fe32) (by kernel_rfl) (Nat.zero_le _) (i := 0) (by kernel_rfl) (by kernel_rfl) rfl S

/-- An operation's form; of none: empty texts. -/
def frm (op : Int) : List UInt8 × List UInt8 :=
  if op = 1 then ([110, 111, 112], []) else if op = 2 then ([115, 101, 116], [100, 105]) else if op = 3 then ([109, 111, 118], [100, 97]) else if op = 4 then ([97, 100, 100], [100, 97, 98])
  else if op = 5 then ([115, 117, 98], [100, 97, 98]) else if op = 6 then ([120, 111, 114], [100, 97, 98]) else if op = 7 then ([97, 110, 100], [100, 97, 98]) else if op = 8 then ([109, 117, 108], [100, 97, 98])
  else if op = 9 then ([115, 104, 108], [100, 97, 98]) else if op = 10 then ([115, 104, 114], [100, 97, 98]) else if op = 11 then ([108, 111, 97, 100], [100, 97, 105]) else if op = 12 then ([115, 116, 111, 114, 101], [97, 98, 105])
  else if op = 13 then ([106, 117, 109, 112], [105]) else if op = 14 then ([98, 114, 97, 110, 99, 104], [97, 105]) else if op = 15 then ([101, 110, 116, 114, 111, 112, 121], [100]) else if op = 16 then ([115, 101, 114, 118, 105, 99, 101], [105])
  else if op = 17 then ([115, 116, 111, 112], []) else ([], [])

theorem ops_cases (op : Int) : (op = 1 ∨ op = 2 ∨ op = 3 ∨ op = 4 ∨ op = 5 ∨ op = 6 ∨ op = 7 ∨ op = 8 ∨ op = 9 ∨ op = 10 ∨ op = 11 ∨ op = 12 ∨ op = 13 ∨ op = 14 ∨ op = 15 ∨ op = 16 ∨ op = 17) ∨ (op < 1 ∨ 17 < op) := by omega

theorem frm_look (op : Int) : lookV (.int .i64 op) (tagE FORMS) (.agg [.str [], .str []]) = .agg [.str (frm op).1, .str (frm op).2] := by
  rcases ops_cases op with (rfl | rfl | rfl | rfl | rfl | rfl | rfl | rfl | rfl | rfl | rfl | rfl | rfl | rfl | rfl | rfl | rfl) | h
  iterate 17 rfl
  rw [lookV_eq]
  have n : ∀ k : Int, 1 ≤ k → k ≤ 17 → (op == k) = false := fun k h1 h2 => by simp; omega
  simp [FORMS, tagE, fm, frm, aeqs, aeq, AVal.cells, n, show op ≠ 1 by omega, show op ≠ 2 by omega, show op ≠ 3 by omega, show op ≠ 4 by omega, show op ≠ 5 by omega, show op ≠ 6 by omega, show op ≠ 7 by omega, show op ≠ 8 by omega, show op ≠ 9 by omega,
    show op ≠ 10 by omega, show op ≠ 11 by omega, show op ≠ 12 by omega, show op ≠ 13 by omega, show op ≠ 14 by omega, show op ≠ 15 by omega, show op ≠ 16 by omega, show op ≠ 17 by omega]

theorem frm_one (op : Int) : oneX (.int .i64 op) FORMS = true := by
  rcases ops_cases op with (rfl | rfl | rfl | rfl | rfl | rfl | rfl | rfl | rfl | rfl | rfl | rfl | rfl | rfl | rfl | rfl | rfl) | h
  iterate 17 rfl
  have n : ∀ k : Int, 1 ≤ k → k ≤ 17 → (op == k) = false := fun k h1 h2 => by simp; omega
  simp [oneX, FORMS, fm, aeqs, aeq, AVal.cells, n, show op ≠ 1 by omega, show op ≠ 2 by omega, show op ≠ 3 by omega, show op ≠ 4 by omega, show op ≠ 5 by omega, show op ≠ 6 by omega, show op ≠ 7 by omega, show op ≠ 8 by omega, show op ≠ 9 by omega,
    show op ≠ 10 by omega, show op ≠ 11 by omega, show op ≠ 12 by omega, show op ≠ 13 by omega, show op ≠ 14 by omega, show op ≠ 15 by omega, show op ≠ 16 by omega, show op ≠ 17 by omega]

theorem frm_keys (op : Int) : keysOk cx 24 (.int .i64 op) (tagE FORMS) := by
  have h : ((tagE FORMS).all fun e => keyFit cx 24 e.1) = true := by kernel_rfl
  exact ⟨by kernel_rfl, fun e he => List.all_eq_true.1 h e he⟩

theorem look_forms (p : FuncId → Bool) (q : Nat → Option UL) {S : St} {b : Nat} (op : Int) (hS : boxX S[b]? = some FORMS) :
    aLookup (cx.wp p q) S 72 (.map b) (.int .i64 op) false = some ⟨keysOk cx 24 (.int .i64 op) (tagE FORMS) ∧ oneX (.int .i64 op) FORMS = true, .agg [.str (frm op).1, .str (frm op).2], S⟩ := by
  rw [aLookup_X (C := cx.wp p q) (t := 72) (kt := 24) (et := 85) (i := ti72) (j := ti85) T72 rfl T85 hS, ← frm_look op]
  rfl

theorem cpu_May (op d a b imm : Int) (h0 : -9223372036854775808 ≤ imm) (h1 : imm ≤ 9223372036854775807) :
    APure cx 21 [.agg [.int .i64 op, .int .i64 d, .int .i64 a, .int .i64 b, .int .i64 imm]] (.bool (decide (MayF op d a b imm (frm op).1 (frm op).2))) := by
  have hm := cpu_may op d a b imm (frm op).1 (frm op).2 h0 h1
  have hl := look_forms (fun _ => false) fe21.q (S := [ABox.cells [.int .i64 op, .int .i64 d, .int .i64 a, .int .i64 b, .int .i64 imm] 26] ++ [.mpx FORMS 17]) (b := 1) op rfl
  refine pure_fn cxOk Tryd.func21 (by kernel_rfl) (fun _ => false) (fe21.q) (by kernel_rfl) (Nat.le_of_ble_eq_true (by kernel_rfl)) ?_
  dsimp only [LB, Tryd.f21, lite, nextOf, Option.isNone, Bool.not_true, Bool.not_false, Bool.and_true, Bool.true_and, Bool.false_and, Bool.and_self, Bool.false_eq_true, if_false, if_true, ↓reduceIte, liteO, List.map, Option.map, frame0, List.zipIdx, Nat.reduceAdd]
  try simp only [List.getElem?_toArray, List.getElem?_cons_succ, List.getElem?_cons_zero, Option.bind_some]
  repeat' (first
    | refine aC_seq ?_
    | refine aC_reg rfl ?_
    | refine aC_block ?_
    | refine aC_skip ?_
    | refine aC_loop ?_
    | refine aC_scope ?_
    | refine scopeQ_normal ?_
    | refine scopeQ_exit ?_
    | refine scopeQ_ret ?_
    | refine aC_exit ?_
    | refine aC_ret ?_
    | refine thenQ_normal ?_
    | refine blockQ_normal ?_
    | refine thenQ_ret ?_
    | refine blockQ_ret ?_
    | refine thenQ_exit ?_
    | refine blockQ_hit ?_
    | refine blockQ_miss rfl ?_
    | refine aL_nil ?_
    | (apply aL_step; (· exact True.intro); (· simp (disch := first | omega | (simp only [go_sem]; omega)) only [go_sem, get_miss, seval, reduceCtorEq]); (· simp (disch := first | omega | (simp only [go_sem]; omega)) only [go_sem, get_miss, seval, reduceCtorEq] <;> with_reducible rfl); (· simp only [go_sem] <;> with_reducible rfl))
    | (refine aL_skip ?_ (by simp only [go_sem] <;> with_reducible rfl) ?_; (· simp (disch := first | omega | (simp only [go_sem]; omega)) only [go_sem, get_miss, seval, reduceCtorEq]))
    | (apply aL_guardN; (· simp (disch := first | omega | (simp only [go_sem]; omega)) only [go_sem, get_miss, seval, reduceCtorEq] <;> with_reducible rfl); all_goals (intro h; first | (exfalso; omega) | (simp only [h, decide_true, decide_false, not_true, not_false_iff])))
    | (apply aL_guardP; (· simp (disch := first | omega | (simp only [go_sem]; omega)) only [go_sem, get_miss, seval, reduceCtorEq] <;> with_reducible rfl); all_goals (intro h; first | (exfalso; omega) | (simp only [h, decide_true, decide_false, not_true, not_false_iff])))
    | (refine aC_condT ?_ ?_; (· simp (disch := first | omega | (simp only [go_sem]; omega)) only [go_sem, get_miss, seval, reduceCtorEq]))
    | (refine aC_condF ?_ ?_; (· simp (disch := first | omega | (simp only [go_sem]; omega)) only [go_sem, get_miss, seval, reduceCtorEq]))
    | (refine aC_condP (by simp (disch := first | omega | (simp only [go_sem]; omega)) only [go_sem, get_miss, seval, reduceCtorEq] <;> with_reducible rfl) ?_ ?_ <;> (intro h; first | (exfalso; omega) | skip))
    | fail)
  refine aC_regB (U := [(some 3, some 4), (some 6, some 4)]) rfl [(some 3, 0), (some 6, 0), (some 7, 1)] ?_
  repeat' (first
    | refine aLB_nil ?_
    | (apply aLB_step; (· exact True.intro); (· exact (by intro h; cases h)); (· rfl); (· simp (disch := first | omega | (simp only [go_sem]; omega)) only [go_sem, get_miss, seval, reduceCtorEq]); (· simp (disch := first | omega | (simp only [go_sem]; omega)) only [go_sem, get_miss, seval, reduceCtorEq] <;> with_reducible rfl); (· simp only [go_sem] <;> with_reducible rfl); (· (intro b hb; first | (cases hb; done) | (simp (disch := first | omega | (simp only [go_sem]; omega)) only [loadBox, go_sem, get_miss, seval, reduceCtorEq] at hb; (try injection hb with hb); subst hb; simp))))
    | (apply aLB_write; (· exact True.intro); (· rfl); (· rfl); (· simp (disch := first | omega | (simp only [go_sem]; omega)) only [go_sem, get_miss, seval, reduceCtorEq]); (· simp (disch := first | omega | (simp only [go_sem]; omega)) only [go_sem, get_miss, seval, reduceCtorEq] <;> with_reducible rfl); (· simp only [go_sem] <;> with_reducible rfl); (· simp))
    | (refine aLB_skip ?_ (by simp only [go_sem] <;> with_reducible rfl) ?_; (· simp (disch := first | omega | (simp only [go_sem]; omega)) only [go_sem, get_miss, seval, reduceCtorEq]))
    | (apply aLB_acall (cpu_forms _); (case hg => (simp (disch := first | omega | (simp only [go_sem]; omega)) only [go_sem, get_miss, seval, reduceCtorEq])); (case hx => (simp (disch := first | omega | (simp only [go_sem]; omega)) only [go_sem, get_miss, seval, reduceCtorEq] <;> with_reducible rfl)); (case ha => (simp (disch := first | omega | (simp only [go_sem]; omega)) only [go_sem, get_miss, seval, reduceCtorEq] <;> with_reducible rfl)); (case he => (with_reducible rfl)); (case hp => (rfl)); (case hf => (simp only [go_sem] <;> with_reducible rfl)); (case hk => (simp)))
    | (apply aLB_pure cxG (hm); (case hg => (simp (disch := first | omega | (simp only [go_sem]; omega)) only [go_sem, get_miss, seval, reduceCtorEq])); (case hx => (simp (disch := first | omega | (simp only [go_sem]; omega)) only [go_sem, get_miss, seval, reduceCtorEq] <;> with_reducible rfl)); (case ha => (simp (disch := first | omega | (simp only [go_sem]; omega)) only [go_sem, get_miss, seval, reduceCtorEq] <;> with_reducible rfl)); (case he => (simp only [go_sem] <;> with_reducible rfl)); (case hcl => (simp)); (case hf => (simp only [go_sem] <;> with_reducible rfl)))
    | (apply aLB_lookX (hl); (case hg => (simp (disch := first | omega | (simp only [go_sem]; omega)) only [go_sem, get_miss, seval, reduceCtorEq])); (case hm => (simp (disch := first | omega | (simp only [go_sem]; omega)) only [go_sem, get_miss, seval, reduceCtorEq] <;> with_reducible rfl)); (case hk => (simp (disch := first | omega | (simp only [go_sem]; omega)) only [go_sem, get_miss, seval, reduceCtorEq] <;> with_reducible rfl)); (case hB => (simp)); (case hf => (simp only [go_sem] <;> with_reducible rfl)))
    | fail)
  repeat' (first
    | refine aC_seq ?_
    | refine aC_reg rfl ?_
    | refine aC_block ?_
    | refine aC_skip ?_
    | refine aC_loop ?_
    | refine aC_scope ?_
    | refine scopeQ_normal ?_
    | refine scopeQ_exit ?_
    | refine scopeQ_ret ?_
    | refine aC_exit ?_
    | refine aC_ret ?_
    | refine thenQ_normal ?_
    | refine blockQ_normal ?_
    | refine thenQ_ret ?_
    | refine blockQ_ret ?_
    | refine thenQ_exit ?_
    | refine blockQ_hit ?_
    | refine blockQ_miss rfl ?_
    | refine aL_nil ?_
    | (apply aL_step; (· exact True.intro); (· simp (disch := first | omega | (simp only [go_sem]; omega)) only [go_sem, get_miss, seval, reduceCtorEq]); (· simp (disch := first | omega | (simp only [go_sem]; omega)) only [go_sem, get_miss, seval, reduceCtorEq] <;> with_reducible rfl); (· simp only [go_sem] <;> with_reducible rfl))
    | (refine aL_skip ?_ (by simp only [go_sem] <;> with_reducible rfl) ?_; (· simp (disch := first | omega | (simp only [go_sem]; omega)) only [go_sem, get_miss, seval, reduceCtorEq]))
    | (apply aL_guardN; (· simp (disch := first | omega | (simp only [go_sem]; omega)) only [go_sem, get_miss, seval, reduceCtorEq] <;> with_reducible rfl); all_goals (intro h; first | (exfalso; omega) | (simp only [h, decide_true, decide_false, not_true, not_false_iff])))
    | (apply aL_guardP; (· simp (disch := first | omega | (simp only [go_sem]; omega)) only [go_sem, get_miss, seval, reduceCtorEq] <;> with_reducible rfl); all_goals (intro h; first | (exfalso; omega) | (simp only [h, decide_true, decide_false, not_true, not_false_iff])))
    | (refine aC_condT ?_ ?_; (· simp (disch := first | omega | (simp only [go_sem]; omega)) only [go_sem, get_miss, seval, reduceCtorEq]))
    | (refine aC_condF ?_ ?_; (· simp (disch := first | omega | (simp only [go_sem]; omega)) only [go_sem, get_miss, seval, reduceCtorEq]))
    | (refine aC_condP (by simp (disch := first | omega | (simp only [go_sem]; omega)) only [go_sem, get_miss, seval, reduceCtorEq] <;> with_reducible rfl) ?_ ?_ <;> (intro h; first | (exfalso; omega) | skip))
    | fail)
  all_goals try (first | exact True.intro | omega)
  all_goals try (simp (disch := first | omega | (simp only [go_sem]; omega)) only [go_sem, get_miss, seval, reduceCtorEq] <;> first | exact True.intro | omega)
  all_goals try (simp (disch := first | omega | (simp only [go_sem]; omega)) only [go_sem, get_miss, seval, reduceCtorEq])
  all_goals try simp
  all_goals exact ⟨frm_keys op, frm_one op⟩
end Go.Am
end
section
set_option linter.unusedVariables false
set_option linter.unusedSimpArgs false
namespace Go.Am
open Go Go.Proofs
set_option linter.unusedSimpArgs false
set_option linter.unusedVariables false
set_option maxHeartbeats 4000000
set_option maxRecDepth 100000
attribute [local irreducible] aC aL thenQ blockQ scopeQ ALoop AWp

/-- Does an operation's form name a part? -/
def Has (op : Int) (c : UInt8) : Prop := 0 ≤ Lib.indexByte (frm op).2 c
instance (op : Int) (c : UInt8) : Decidable (Has op c) := by unfold Has; infer_instance

end Go.Am
end
section
set_option linter.unusedVariables false
set_option linter.unusedSimpArgs false
namespace Go.Am
open Go Go.Proofs
set_option linter.unusedSimpArgs false
set_option linter.unusedVariables false
set_option maxHeartbeats 4000000
set_option maxRecDepth 100000
attribute [local irreducible] aC aL thenQ blockQ scopeQ ALoop AWp

end Go.Am
end
section
set_option linter.unusedVariables false
set_option linter.unusedSimpArgs false
namespace Go.Am
open Go Go.Proofs
set_option linter.unusedSimpArgs false
set_option linter.unusedVariables false
set_option maxHeartbeats 4000000
set_option maxRecDepth 100000
attribute [local irreducible] aC aL thenQ blockQ scopeQ ALoop AWp

theorem frm_none {op : Int} (h : op < 1 ∨ 17 < op) : frm op = ([], []) := by
  simp [frm, show op ≠ 1 by omega, show op ≠ 2 by omega, show op ≠ 3 by omega, show op ≠ 4 by omega, show op ≠ 5 by omega, show op ≠ 6 by omega, show op ≠ 7 by omega, show op ≠ 8 by omega, show op ≠ 9 by omega,
    show op ≠ 10 by omega, show op ≠ 11 by omega, show op ≠ 12 by omega, show op ≠ 13 by omega, show op ≠ 14 by omega, show op ≠ 15 by omega, show op ≠ 16 by omega, show op ≠ 17 by omega]

theorem reg_range {p : List UInt8} {c : UInt8} {n : Int} (h : RegOk p c n) : 0 ≤ n ∧ n < 8 := by
  unfold RegOk at h
  omega

theorem may_range {op d a b imm : Int} (h : MayF op d a b imm (frm op).1 (frm op).2) : (1 ≤ op ∧ op ≤ 17) ∧ (0 ≤ d ∧ d < 8) ∧ (0 ≤ a ∧ a < 8) ∧ (0 ≤ b ∧ b < 8) ∧ -2147483648 ≤ imm ∧ imm ≤ 2147483647 := by
  obtain ⟨hne, hd, ha, hb, hi, _⟩ := h
  refine ⟨?_, reg_range hd, reg_range ha, reg_range hb, hi⟩
  by_cases h : op < 1 ∨ 17 < op
  · rw [frm_none h] at hne
    exact absurd rfl hne
  · omega

/-- An instruction's word. -/
def encI (op d a b imm : Int) : Int := op + d * 256 + a * 65536 + b * 16777216 + imm % 4294967296 * 4294967296

theorem or_hi (X Y i : Nat) (hx : X < 2 ^ i) (h2 : Y * 2 ^ i < 18446744073709551616) (h3 : 2 ^ i ≤ 18446744073709551616) : bits .or .u64 (X : Int) ((Y * 2 ^ i : Nat) : Int) = ((X + Y * 2 ^ i : Nat) : Int) := by
  rw [bits_or_u64_nat X (Y * 2 ^ i) (Nat.lt_of_lt_of_le hx h3) h2]
  have k := Nat.shiftLeft_add_eq_or_of_lt hx Y
  rw [Nat.shiftLeft_eq] at k
  rw [Nat.or_comm, ← k, Nat.add_comm]

theorem enc_or {op d a b imm : Int} (ho : 1 ≤ op ∧ op ≤ 17) (hd : 0 ≤ d ∧ d < 8) (ha : 0 ≤ a ∧ a < 8) (hb : 0 ≤ b ∧ b < 8) :
    bits .or .u64 (bits .or .u64 (bits .or .u64 (bits .or .u64 (IntKind.u64.wrap op) (IntKind.u64.wrap (IntKind.u64.wrap d * 256))) (IntKind.u64.wrap (IntKind.u64.wrap a * 65536))) (IntKind.u64.wrap (IntKind.u64.wrap b * 16777216))) (IntKind.u64.wrap (IntKind.u64.wrap imm * 4294967296)) = encI op d a b imm := by
  obtain ⟨O, rfl⟩ := Int.eq_ofNat_of_zero_le (show 0 ≤ op by omega)
  obtain ⟨D, rfl⟩ := Int.eq_ofNat_of_zero_le hd.1
  obtain ⟨A, rfl⟩ := Int.eq_ofNat_of_zero_le ha.1
  obtain ⟨B, rfl⟩ := Int.eq_ofNat_of_zero_le hb.1
  obtain ⟨I, hI⟩ := Int.eq_ofNat_of_zero_le (show 0 ≤ imm % 4294967296 by omega)
  have e1 : IntKind.u64.wrap (O : Int) = ((O : Nat) : Int) := by rw [IntKind.wrap_u64]; omega
  have e2 : IntKind.u64.wrap (IntKind.u64.wrap (D : Int) * 256) = ((D * 2 ^ 8 : Nat) : Int) := by rw [IntKind.wrap_u64, IntKind.wrap_u64]; omega
  have e3 : IntKind.u64.wrap (IntKind.u64.wrap (A : Int) * 65536) = ((A * 2 ^ 16 : Nat) : Int) := by rw [IntKind.wrap_u64, IntKind.wrap_u64]; omega
  have e4 : IntKind.u64.wrap (IntKind.u64.wrap (B : Int) * 16777216) = ((B * 2 ^ 24 : Nat) : Int) := by rw [IntKind.wrap_u64, IntKind.wrap_u64]; omega
  have e5 : IntKind.u64.wrap (IntKind.u64.wrap imm * 4294967296) = ((I * 2 ^ 32 : Nat) : Int) := by rw [IntKind.wrap_u64, IntKind.wrap_u64]; omega
  rw [e1, e2, e3, e4, e5, or_hi O D 8 (by omega) (by omega) (by decide), or_hi _ A 16 (by omega) (by omega) (by decide), or_hi _ B 24 (by omega) (by omega) (by decide), or_hi _ I 32 (by omega) (by omega) (by decide)]
  unfold encI
  rw [hI]
  omega

theorem cpu_Encode (op d a b imm : Int) (h0 : -9223372036854775808 ≤ imm) (h1 : imm ≤ 9223372036854775807) :
    APure cx 19 [.agg [.int .i64 op, .int .i64 d, .int .i64 a, .int .i64 b, .int .i64 imm]]
      (if MayF op d a b imm (frm op).1 (frm op).2 then .tup [.int .u64 (encI op d a b imm), .int .i64 0] else .tup [.int .u64 0, .int .i64 2]) := by
  have hm := cpu_May op d a b imm h0 h1
  by_cases h : MayF op d a b imm (frm op).1 (frm op).2
  case' pos => rw [decide_eq_true h] at hm
  case' neg => rw [decide_eq_false h] at hm
  case' pos => rw [if_pos h, ← enc_or (may_range h).1 (may_range h).2.1 (may_range h).2.2.1 (may_range h).2.2.2.1]
  case' neg => rw [if_neg h]
  all_goals
  refine pure_fn cxOk Tryd.func19 (by kernel_rfl) (fun _ => false) (fun _ => none) (by kernel_rfl) (Nat.le_of_ble_eq_true (by kernel_rfl)) ?_
  dsimp only [LB, Tryd.f19, lite, nextOf, Option.isNone, Bool.not_true, Bool.not_false, Bool.and_true, Bool.true_and, Bool.false_and, Bool.and_self, Bool.false_eq_true, if_false, if_true, ↓reduceIte, liteO, List.map, Option.map, frame0, List.zipIdx, Nat.reduceAdd]
  try simp only [List.getElem?_toArray, List.getElem?_cons_succ, List.getElem?_cons_zero, Option.bind_some]
  repeat' (first
    | refine aC_seq ?_
    | refine aC_reg rfl ?_
    | refine aC_block ?_
    | refine aC_skip ?_
    | refine aC_loop ?_
    | refine aC_scope ?_
    | refine scopeQ_normal ?_
    | refine scopeQ_exit ?_
    | refine scopeQ_ret ?_
    | refine aC_exit ?_
    | refine aC_ret ?_
    | refine thenQ_normal ?_
    | refine blockQ_normal ?_
    | refine thenQ_ret ?_
    | refine blockQ_ret ?_
    | refine thenQ_exit ?_
    | refine blockQ_hit ?_
    | refine blockQ_miss rfl ?_
    | refine aL_nil ?_
    | (apply aL_step; (· exact True.intro); (· simp (disch := first | omega | (simp only [go_sem]; omega)) only [go_sem, get_miss, seval, reduceCtorEq]); (· simp (disch := first | omega | (simp only [go_sem]; omega)) only [go_sem, get_miss, seval, reduceCtorEq] <;> with_reducible rfl); (· simp only [go_sem] <;> with_reducible rfl))
    | (refine aL_skip ?_ (by simp only [go_sem] <;> with_reducible rfl) ?_; (· simp (disch := first | omega | (simp only [go_sem]; omega)) only [go_sem, get_miss, seval, reduceCtorEq]))
    | (apply aL_guardN; (· simp (disch := first | omega | (simp only [go_sem]; omega)) only [go_sem, get_miss, seval, reduceCtorEq] <;> with_reducible rfl); all_goals (intro h; first | (exfalso; omega) | (simp only [h, decide_true, decide_false, not_true, not_false_iff])))
    | (apply aL_guardP; (· simp (disch := first | omega | (simp only [go_sem]; omega)) only [go_sem, get_miss, seval, reduceCtorEq] <;> with_reducible rfl); all_goals (intro h; first | (exfalso; omega) | (simp only [h, decide_true, decide_false, not_true, not_false_iff])))
    | (refine aC_condT ?_ ?_; (· simp (disch := first | omega | (simp only [go_sem]; omega)) only [go_sem, get_miss, seval, reduceCtorEq]))
    | (refine aC_condF ?_ ?_; (· simp (disch := first | omega | (simp only [go_sem]; omega)) only [go_sem, get_miss, seval, reduceCtorEq]))
    | (refine aC_condP (by simp (disch := first | omega | (simp only [go_sem]; omega)) only [go_sem, get_miss, seval, reduceCtorEq] <;> with_reducible rfl) ?_ ?_ <;> (intro h; first | (exfalso; omega) | skip))
    | (apply aL_pure cxG (hm); (case hg => (simp (disch := first | omega | (simp only [go_sem]; omega)) only [go_sem, get_miss, seval, reduceCtorEq])); (case hx => (simp (disch := first | omega | (simp only [go_sem]; omega)) only [go_sem, get_miss, seval, reduceCtorEq] <;> with_reducible rfl)); (case ha => (simp (disch := first | omega | (simp only [go_sem]; omega)) only [go_sem, get_miss, seval, reduceCtorEq] <;> with_reducible rfl)); (case he => (simp only [go_sem] <;> with_reducible rfl)); (case hcl => (simp)); (case hf => (simp only [go_sem] <;> with_reducible rfl)))
    | fail)
  all_goals try (first | exact True.intro | omega)
  all_goals try (simp (disch := first | omega | (simp only [go_sem]; omega)) only [go_sem, get_miss, seval, reduceCtorEq] <;> first | exact True.intro | omega)
  all_goals (clear hm h)
  all_goals try (simp (disch := first | omega | (simp only [go_sem]; omega)) only [go_sem, get_miss, seval, reduceCtorEq])
  all_goals try simp

end Go.Am
end
