/- The report of bytes: the document's, the program's. -/
import Derived.Test.YtbaminbodfidmaaDoorR01
import Derived.Test.YtbaminbodfidmaaDoorP04
set_option linter.unusedVariables false
set_option linter.unusedSimpArgs false
namespace Go.Am
open Go Go.Proofs
set_option linter.unusedSimpArgs false
set_option linter.unusedVariables false
set_option maxHeartbeats 4000000
set_option maxRecDepth 100000
section
attribute [local irreducible] aC aL thenQ blockQ scopeQ ALoop AWp

theorem PLR_0 (z : List AVal) : placeOf cx.T ⟨(.struct #[⟨ "Instance", 24, 0, false, "", "", 0⟩, ⟨ "Measure", 26, 1, false, "", "", 8⟩, ⟨ "Challenge", 26, 33, false, "", "", 40⟩]), 65, 72, z⟩ 0 = some (0, 1) := by kernel_rfl
theorem PLR_1 (z : List AVal) : placeOf cx.T ⟨(.struct #[⟨ "Instance", 24, 0, false, "", "", 0⟩, ⟨ "Measure", 26, 1, false, "", "", 8⟩, ⟨ "Challenge", 26, 33, false, "", "", 40⟩]), 65, 72, z⟩ 1 = some (1, 32) := by kernel_rfl
theorem PLR_2 (z : List AVal) : placeOf cx.T ⟨(.struct #[⟨ "Instance", 24, 0, false, "", "", 0⟩, ⟨ "Measure", 26, 1, false, "", "", 8⟩, ⟨ "Challenge", 26, 33, false, "", "", 40⟩]), 65, 72, z⟩ 2 = some (33, 32) := by kernel_rfl
theorem ne_selfN (n : Nat) : (n ≠ n) = False := by simp
attribute [go_sem] ne_selfN or_self PLR_0 PLR_1 PLR_2
/-- Noughts. -/
def Z32 : List UInt8 := [0, 0, 0, 0, 0, 0, 0, 0, 0, 0, 0, 0, 0, 0, 0, 0, 0, 0, 0, 0, 0, 0, 0, 0, 0, 0, 0, 0, 0, 0, 0, 0]
/-- The parts of 80 bytes. -/
def bI (b : List UInt8) : Nat := getl ((b.take 16).drop 8)
def bM (b : List UInt8) : List UInt8 := (b.take 48).drop 16
def bC (b : List UInt8) : List UInt8 := b.drop 48
theorem bI_lt (b : List UInt8) : bI b < 18446744073709551616 := by
  have h := getl_lt ((b.take 16).drop 8)
  have h2 : (256 : Nat) ^ ((b.take 16).drop 8).length ≤ 256 ^ 8 := Nat.pow_le_pow_right (by decide) (by simp; omega)
  have e8 : (256 : Nat) ^ 8 = 18446744073709551616 := by decide
  unfold bI
  omega
def repZ : List AVal := repc 0 Z32 Z32

theorem cut80 (b : List UInt8) (h : b.length = 80) : cutl [8, 8, 32, 32] b = [b.take 8, (b.take 16).drop 8, bM b, bC b] := by
  simp only [cutl, bM, bC, List.drop_take, List.drop_drop, Nat.reduceAdd, Nat.reduceSub]
  rw [List.take_of_length_le (l := b.drop 48) (by simp; omega)]

theorem report_Of (nl : Bool) (b : List UInt8) (hn : nl = true → b = []) (hl : b.length ≤ 1048576) : APure cx 9 [.sl 1 nl (bl b) .any] (if b.length = 80 ∧ b.take 8 = MARK then .tup [.agg (repc (bI b) (bM b) (bC b)), .int .i64 0] else .tup [.agg repZ, .int .i64 4]) := by
  have hcut := wire_cut nl false b [8, 8, 32, 32] hl hn (by decide) (by decide) (by simp)
  have e80 : ([8, 8, 32, 32] : List Nat).sum = 80 := rfl
  rw [e80] at hcut
  simp only [il, inl, List.map_cons, List.map_nil, Int.cast_ofNat_Int] at hcut
  by_cases h : b.length = 80
  case neg =>
    rw [if_neg (by omega)] at hcut
    rw [if_neg (by omega)]
    refine pure_fn cxOk Tryd.func9 (by kernel_rfl) (fun _ => false) (fe9.q) (by kernel_rfl) (Nat.le_of_ble_eq_true (by kernel_rfl)) ?_
    dsimp only [LB, Tryd.f9, lite, nextOf, Option.isNone, Bool.not_true, Bool.not_false, Bool.and_true, Bool.true_and, Bool.false_and, Bool.and_self, Bool.false_eq_true, if_false, if_true, ↓reduceIte, liteO, List.map, Option.map, frame0, List.zipIdx, Nat.reduceAdd]
    try simp only [List.getElem?_toArray, List.getElem?_cons_succ, List.getElem?_cons_zero, Option.bind_some]
    repeat' (first
      | refine aC_seq ?_
      | refine aC_reg rfl ?_
      | refine aC_block ?_
      | refine aC_skip ?_
      | refine aC_loop ?_
      | refine aC_scope ?_
      | refine scopeQ_normal ?_
      | refine scopeQ_exit ?_
      | refine scopeQ_ret ?_
      | refine aC_exit ?_
      | refine aC_ret ?_
      | refine thenQ_normal ?_
      | refine blockQ_normal ?_
      | refine thenQ_ret ?_
      | refine blockQ_ret ?_
      | refine thenQ_exit ?_
      | refine blockQ_hit ?_
      | refine blockQ_miss rfl ?_
      | refine aL_nil ?_
      | (apply aL_step; (· exact True.intro); (· simp (disch := first | omega | (simp only [go_sem]; omega)) only [go_sem, get_miss, seval, reduceCtorEq, not_false_eq_true, decide_true, not_true_eq_false]); (· simp (disch := first | omega | (simp only [go_sem]; omega)) only [go_sem, get_miss, seval, reduceCtorEq, not_false_eq_true, decide_true, not_true_eq_false] <;> with_reducible rfl); (· simp only [go_sem] <;> with_reducible rfl))
      | (refine aL_skip ?_ (by simp only [go_sem] <;> with_reducible rfl) ?_; (· simp (disch := first | omega | (simp only [go_sem]; omega)) only [go_sem, get_miss, seval, reduceCtorEq, not_false_eq_true, decide_true, not_true_eq_false]))
      | (apply aL_guardN; (· simp (disch := first | omega | (simp only [go_sem]; omega)) only [go_sem, get_miss, seval, reduceCtorEq, not_false_eq_true, decide_true, not_true_eq_false] <;> with_reducible rfl); all_goals (intro h; first | (exfalso; omega) | (simp only [h, decide_true, decide_false, not_true, not_false_iff])))
      | (apply aL_guardP; (· simp (disch := first | omega | (simp only [go_sem]; omega)) only [go_sem, get_miss, seval, reduceCtorEq, not_false_eq_true, decide_true, not_true_eq_false] <;> with_reducible rfl); all_goals (intro h; first | (exfalso; omega) | (simp only [h, decide_true, decide_false, not_true, not_false_iff])))
      | (refine aC_condT ?_ ?_; (· simp (disch := first | omega | (simp only [go_sem]; omega)) only [go_sem, get_miss, seval, reduceCtorEq, not_false_eq_true, decide_true, not_true_eq_false]))
      | (refine aC_condF ?_ ?_; (· simp (disch := first | omega | (simp only [go_sem]; omega)) only [go_sem, get_miss, seval, reduceCtorEq, not_false_eq_true, decide_true, not_true_eq_false]))
      | (refine aC_condP (by simp (disch := first | omega | (simp only [go_sem]; omega)) only [go_sem, get_miss, seval, reduceCtorEq, not_false_eq_true, decide_true, not_true_eq_false] <;> with_reducible rfl) ?_ ?_ <;> (intro h; first | (exfalso; omega) | skip))
      | (apply aL_pure cxG (hcut); (case hg => (simp (disch := first | omega | (simp only [go_sem]; omega)) only [go_sem, get_miss, seval, reduceCtorEq, not_false_eq_true, decide_true, not_true_eq_false])); (case hx => (simp (disch := first | omega | (simp only [go_sem]; omega)) only [go_sem, get_miss, seval, reduceCtorEq, not_false_eq_true, decide_true, not_true_eq_false] <;> with_reducible rfl)); (case ha => (simp (disch := first | omega | (simp only [go_sem]; omega)) only [go_sem, get_miss, seval, reduceCtorEq, not_false_eq_true, decide_true, not_true_eq_false] <;> with_reducible rfl)); (case he => (simp only [go_sem] <;> with_reducible rfl)); (case hcl => (simp)); (case hf => (simp only [go_sem] <;> with_reducible rfl)))
      | fail)
    all_goals try (first | exact True.intro | exact not_false | omega)
    all_goals try (simp (disch := first | omega | (simp only [go_sem]; omega)) only [go_sem, get_miss, seval, reduceCtorEq] <;> first | exact True.intro | omega)
    all_goals try (simp (disch := first | omega | (simp only [go_sem]; omega)) only [go_sem, get_miss, seval, reduceCtorEq])
    all_goals try simp [repZ, repc, Z32]
  case pos =>
  rw [if_pos h.symm, cut80 b h] at hcut
  simp only [bsl, List.map_cons, List.map_nil] at hcut
  have hm : (bM b).length = 32 := by simp [bM]; omega
  have hc : (bC b).length = 32 := by simp [bC]; omega
  have hg := wire_get nl ((b.take 16).drop 8)
  rw [if_pos (by simp; omega), show getl ((b.take 16).drop 8) = bI b from rfl] at hg
  have h8 : (b.take 8).length = 8 := by simp; omega
  generalize hib : (b.take 16).drop 8 = ib at *
  unfold repc
  generalize bI b = n at *
  generalize bM b = m at *
  generalize bC b = c at *
  generalize b.take 8 = k at *
  have hk2 : (k = [114, 101, 112, 111, 114, 116, 0, 0]) = (k = MARK) := rfl
  have ed : List.drop 64 (m ++ Z32) = [] := List.drop_eq_nil_of_le (by simp [hm, Z32])
  unfold Z32 at ed
  by_cases hE : k = MARK
  case' pos => rw [if_pos ⟨h, hE⟩]; subst hE; have hE := True.intro; unfold MARK at *
  case' neg => rw [if_neg (fun q => hE q.2)]
  all_goals
  refine pure_fn cxOk Tryd.func9 (by kernel_rfl) (fun _ => false) (fe9.q) (by kernel_rfl) (Nat.le_of_ble_eq_true (by kernel_rfl)) ?_
  dsimp only [LB, Tryd.f9, lite, nextOf, Option.isNone, Bool.not_true, Bool.not_false, Bool.and_true, Bool.true_and, Bool.false_and, Bool.and_self, Bool.false_eq_true, if_false, if_true, ↓reduceIte, liteO, List.map, Option.map, frame0, List.zipIdx, Nat.reduceAdd]
  try simp only [List.getElem?_toArray, List.getElem?_cons_succ, List.getElem?_cons_zero, Option.bind_some]
  repeat' (first
    | refine aC_seq ?_
    | refine aC_reg rfl ?_
    | refine aC_block ?_
    | refine aC_skip ?_
    | refine aC_loop ?_
    | refine aC_scope ?_
    | refine scopeQ_normal ?_
    | refine scopeQ_exit ?_
    | refine scopeQ_ret ?_
    | refine aC_exit ?_
    | refine aC_ret ?_
    | refine thenQ_normal ?_
    | refine blockQ_normal ?_
    | refine thenQ_ret ?_
    | refine blockQ_ret ?_
    | refine thenQ_exit ?_
    | refine blockQ_hit ?_
    | refine blockQ_miss rfl ?_
    | refine aL_nil ?_
    | (apply aL_step; (· exact True.intro); (· simp (disch := first | omega | (simp only [go_sem]; omega)) only [go_sem, get_miss, seval, reduceCtorEq, hm, hc, hk2, hE, List.append_nil]); (· simp (disch := first | omega | (simp only [go_sem]; omega)) only [go_sem, get_miss, seval, reduceCtorEq, hm, hc, hk2, hE, List.append_nil] <;> with_reducible rfl); (· simp only [go_sem] <;> with_reducible rfl))
    | (refine aL_skip ?_ (by simp only [go_sem] <;> with_reducible rfl) ?_; (· simp (disch := first | omega | (simp only [go_sem]; omega)) only [go_sem, get_miss, seval, reduceCtorEq, hm, hc, hk2, hE, List.append_nil]))
    | (apply aL_guardN; (· simp (disch := first | omega | (simp only [go_sem]; omega)) only [go_sem, get_miss, seval, reduceCtorEq, hm, hc, hk2, hE, List.append_nil] <;> with_reducible rfl); all_goals (intro h; first | (exfalso; omega) | (simp only [h, decide_true, decide_false, not_true, not_false_iff])))
    | (apply aL_guardP; (· simp (disch := first | omega | (simp only [go_sem]; omega)) only [go_sem, get_miss, seval, reduceCtorEq, hm, hc, hk2, hE, List.append_nil] <;> with_reducible rfl); all_goals (intro h; first | (exfalso; omega) | (simp only [h, decide_true, decide_false, not_true, not_false_iff])))
    | (refine aC_condT ?_ ?_; (· simp (disch := first | omega | (simp only [go_sem]; omega)) only [go_sem, get_miss, seval, reduceCtorEq, hm, hc, hk2, hE, List.append_nil]))
    | (refine aC_condF ?_ ?_; (· simp (disch := first | omega | (simp only [go_sem]; omega)) only [go_sem, get_miss, seval, reduceCtorEq, hm, hc, hk2, hE, List.append_nil]))
    | (refine aC_condP (by simp (disch := first | omega | (simp only [go_sem]; omega)) only [go_sem, get_miss, seval, reduceCtorEq, hm, hc, hk2, hE, List.append_nil] <;> with_reducible rfl) ?_ ?_ <;> (intro h; first | (exfalso; omega) | skip))
    | (apply aL_pure cxG (hcut); (case hg => (simp (disch := first | omega | (simp only [go_sem]; omega)) only [go_sem, get_miss, seval, reduceCtorEq, hm, hc, hk2, hE, List.append_nil])); (case hx => (simp (disch := first | omega | (simp only [go_sem]; omega)) only [go_sem, get_miss, seval, reduceCtorEq, hm, hc, hk2, hE, List.append_nil] <;> with_reducible rfl)); (case ha => (simp (disch := first | omega | (simp only [go_sem]; omega)) only [go_sem, get_miss, seval, reduceCtorEq, hm, hc, hk2, hE, List.append_nil] <;> with_reducible rfl)); (case he => (simp only [go_sem] <;> with_reducible rfl)); (case hcl => (simp)); (case hf => (simp only [go_sem] <;> with_reducible rfl)))
    | (apply aL_pure cxG (hg); (case hg => (simp (disch := first | omega | (simp only [go_sem]; omega)) only [go_sem, get_miss, seval, reduceCtorEq, hm, hc, hk2, hE, List.append_nil])); (case hx => (simp (disch := first | omega | (simp only [go_sem]; omega)) only [go_sem, get_miss, seval, reduceCtorEq, hm, hc, hk2, hE, List.append_nil] <;> with_reducible rfl)); (case ha => (simp (disch := first | omega | (simp only [go_sem]; omega)) only [go_sem, get_miss, seval, reduceCtorEq, hm, hc, hk2, hE, List.append_nil] <;> with_reducible rfl)); (case he => (simp only [go_sem] <;> with_reducible rfl)); (case hcl => (simp)); (case hf => (simp only [go_sem] <;> with_reducible rfl)))
    | fail)
  all_goals try (first | exact absurd True.intro h | skip)
  all_goals try (first | exact True.intro | exact not_false | omega)
  all_goals try (simp (disch := first | omega | (simp only [go_sem]; omega)) only [go_sem, get_miss, seval, reduceCtorEq] <;> first | exact True.intro | omega)
  all_goals try (simp (disch := first | omega | (simp only [go_sem]; omega)) only [go_sem, get_miss, seval, reduceCtorEq])
  all_goals try simp [repZ, repc, Z32]
  all_goals (refine ⟨by omega, ?_⟩; rw [ed, List.append_nil])
end
end Go.Am
