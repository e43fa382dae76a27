/- Words of instructions: Decode (the program's, the document's). -/
import Derived.Test.YtbkfnbnechpolaaDoorC04
import Derived.Test.YtbkfnbnechpolaaDoorAmWalkC
set_option linter.unusedVariables false
set_option linter.unusedSimpArgs false
namespace Go.Am
open Go Go.Proofs
set_option linter.unusedSimpArgs false
set_option linter.unusedVariables false
set_option maxHeartbeats 8000000
set_option maxRecDepth 100000
attribute [local irreducible] aC aL thenQ blockQ scopeQ ALoop AWp

theorem PL26_0 : placeOf cx.T ⟨(.struct #[⟨ "Op", 24, 0, false, "", "", 0⟩, ⟨ "D", 3, 1, false, "", "", 8⟩, ⟨ "A", 3, 2, false, "", "", 16⟩, ⟨ "B", 3, 3, false, "", "", 24⟩, ⟨ "Imm", 2, 4, false, "", "", 32⟩]), 5, 40, [(.int .i64 0), (.int .i64 0), (.int .i64 0), (.int .i64 0), (.int .i64 0)]⟩ 0 = some (0, 1) := by kernel_rfl
attribute [go_sem] PL26_0
theorem PL26_1 : placeOf cx.T ⟨(.struct #[⟨ "Op", 24, 0, false, "", "", 0⟩, ⟨ "D", 3, 1, false, "", "", 8⟩, ⟨ "A", 3, 2, false, "", "", 16⟩, ⟨ "B", 3, 3, false, "", "", 24⟩, ⟨ "Imm", 2, 4, false, "", "", 32⟩]), 5, 40, [(.int .i64 0), (.int .i64 0), (.int .i64 0), (.int .i64 0), (.int .i64 0)]⟩ 1 = some (1, 1) := by kernel_rfl
attribute [go_sem] PL26_1
theorem PL26_2 : placeOf cx.T ⟨(.struct #[⟨ "Op", 24, 0, false, "", "", 0⟩, ⟨ "D", 3, 1, false, "", "", 8⟩, ⟨ "A", 3, 2, false, "", "", 16⟩, ⟨ "B", 3, 3, false, "", "", 24⟩, ⟨ "Imm", 2, 4, false, "", "", 32⟩]), 5, 40, [(.int .i64 0), (.int .i64 0), (.int .i64 0), (.int .i64 0), (.int .i64 0)]⟩ 2 = some (2, 1) := by kernel_rfl
attribute [go_sem] PL26_2
theorem PL26_3 : placeOf cx.T ⟨(.struct #[⟨ "Op", 24, 0, false, "", "", 0⟩, ⟨ "D", 3, 1, false, "", "", 8⟩, ⟨ "A", 3, 2, false, "", "", 16⟩, ⟨ "B", 3, 3, false, "", "", 24⟩, ⟨ "Imm", 2, 4, false, "", "", 32⟩]), 5, 40, [(.int .i64 0), (.int .i64 0), (.int .i64 0), (.int .i64 0), (.int .i64 0)]⟩ 3 = some (3, 1) := by kernel_rfl
attribute [go_sem] PL26_3
theorem PL26_4 : placeOf cx.T ⟨(.struct #[⟨ "Op", 24, 0, false, "", "", 0⟩, ⟨ "D", 3, 1, false, "", "", 8⟩, ⟨ "A", 3, 2, false, "", "", 16⟩, ⟨ "B", 3, 3, false, "", "", 24⟩, ⟨ "Imm", 2, 4, false, "", "", 32⟩]), 5, 40, [(.int .i64 0), (.int .i64 0), (.int .i64 0), (.int .i64 0), (.int .i64 0)]⟩ 4 = some (4, 1) := by kernel_rfl
attribute [go_sem] PL26_4
attribute [go_sem] ne_eq not_true_eq_false or_false or_self if_false

/-! Put -/
def putl (n : Nat) (size : Nat) : List UInt8 := (List.range size).map fun k => UInt8.ofNat (n / 256 ^ k % 256)
@[simp] theorem putl_length (n k : Nat) : (putl n k).length = k := by simp [putl]
attribute [go_sem] putl_length
theorem ofNat_toNat8 (m : Nat) (h : m < 256) : (UInt8.ofNat m).toNat = m := by simp [UInt8.toNat_ofNat']; omega

/-! Get -/
/-- A word's last part. -/
def immW (w : Nat) : Int := if 2147483648 ≤ w / 4294967296 then ((w / 4294967296 : Nat) : Int) - 4294967296 else ((w / 4294967296 : Nat) : Int)
def MayW (w : Nat) : Prop := MayF ((w % 256 : Nat) : Int) ((w / 256 % 256 : Nat) : Int) ((w / 65536 % 256 : Nat) : Int) ((w / 16777216 % 256 : Nat) : Int) (immW w) (frm ((w % 256 : Nat) : Int)).1 (frm ((w % 256 : Nat) : Int)).2
instance (w : Nat) : Decidable (MayW w) := by unfold MayW; infer_instance

theorem and_255 (n : Nat) (h : n < 18446744073709551616) : bits .and .u64 (n : Int) 255 = ((n % 256 : Nat) : Int) := by
  have := bits_and_u64_nat n 255 h (by decide)
  rw [show ((255 : Nat) : Int) = 255 from rfl] at this
  rw [this, show n &&& 255 = n % 256 from Nat.and_two_pow_sub_one_eq_mod n 8]

theorem cpu_Decode (w : Nat) (hw : w < 18446744073709551616) :
    APure cx 10 [.int .u64 w] (if MayW w then .tup [.agg [.int .i64 ((w % 256 : Nat) : Int), .int .i64 ((w / 256 % 256 : Nat) : Int), .int .i64 ((w / 65536 % 256 : Nat) : Int), .int .i64 ((w / 16777216 % 256 : Nat) : Int), .int .i64 (immW w)], .int .i64 0]
      else .tup [.agg [.int .i64 0, .int .i64 0, .int .i64 0, .int .i64 0, .int .i64 0], .int .i64 4]) := by
  have hi : -2147483648 ≤ immW w ∧ immW w ≤ 2147483647 := by unfold immW; split <;> omega
  have hm := cpu_May ((w % 256 : Nat) : Int) ((w / 256 % 256 : Nat) : Int) ((w / 65536 % 256 : Nat) : Int) ((w / 16777216 % 256 : Nat) : Int) (immW w) (by omega) (by omega)
  have e0 : bits .and .u64 (w : Int) 255 = ((w % 256 : Nat) : Int) := and_255 w hw
  have e1 : bits .and .u64 ((w : Int).fdiv 256) 255 = ((w / 256 % 256 : Nat) : Int) := by
    rw [show (w : Int).fdiv 256 = ((w / 256 : Nat) : Int) from by rw [Int.fdiv_eq_ediv_of_nonneg _ (by decide)]; omega, and_255 _ (by omega)]
  have e2 : bits .and .u64 ((w : Int).fdiv 65536) 255 = ((w / 65536 % 256 : Nat) : Int) := by
    rw [show (w : Int).fdiv 65536 = ((w / 65536 : Nat) : Int) from by rw [Int.fdiv_eq_ediv_of_nonneg _ (by decide)]; omega, and_255 _ (by omega)]
  have e3 : bits .and .u64 ((w : Int).fdiv 16777216) 255 = ((w / 16777216 % 256 : Nat) : Int) := by
    rw [show (w : Int).fdiv 16777216 = ((w / 16777216 : Nat) : Int) from by rw [Int.fdiv_eq_ediv_of_nonneg _ (by decide)]; omega, and_255 _ (by omega)]
  have e4 : (IntKind.i64.wrap (w : Int)).fdiv 4294967296 = immW w := by
    rw [Int.fdiv_eq_ediv_of_nonneg _ (by decide)]
    by_cases h63 : w < 9223372036854775808
    · rw [IntWalk.i64_in _ ⟨by omega, by omega⟩]
      unfold immW
      rw [if_neg (by omega)]
      omega
    · have k : IntKind.i64.wrap (w : Int) = (w : Int) - 18446744073709551616 := by
        have := IntKind.wrap_i64 (w : Int)
        rw [this]
        omega
      rw [k]
      unfold immW
      rw [if_pos (by omega)]
      omega
  have c0 : ∀ n : Nat, IntKind.i64.wrap ((n % 256 : Nat) : Int) = ((n % 256 : Nat) : Int) := fun n => IntWalk.i64_in _ ⟨by omega, by omega⟩
  have hmw : MayW w ↔ MayF ((w % 256 : Nat) : Int) ((w / 256 % 256 : Nat) : Int) ((w / 65536 % 256 : Nat) : Int) ((w / 16777216 % 256 : Nat) : Int) (immW w) (frm ((w % 256 : Nat) : Int)).1 (frm ((w % 256 : Nat) : Int)).2 := Iff.rfl
  by_cases h : MayW w
  case' pos =>
    rw [decide_eq_true (hmw.1 h)] at hm
    rw [if_pos h]
  case' neg =>
    rw [decide_eq_false (fun k => h (hmw.2 k))] at hm
    rw [if_neg h]
  all_goals
  clear h hmw
  have c1 := c0 w
  have c2 := c0 (w / 256)
  have c3 := c0 (w / 65536)
  have c4 := c0 (w / 16777216)
  generalize ((w % 256 : Nat) : Int) = x0 at *
  generalize ((w / 256 % 256 : Nat) : Int) = x1 at *
  generalize ((w / 65536 % 256 : Nat) : Int) = x2 at *
  generalize ((w / 16777216 % 256 : Nat) : Int) = x3 at *
  generalize immW w = x4 at *
  obtain ⟨y, e5⟩ : ∃ y, IntKind.i64.wrap (w : Int) = y := ⟨_, rfl⟩
  rw [e5] at e4
  refine pure_fn cxOk Tryd.func10 (by kernel_rfl) (fun _ => false) (fun _ => none) (by kernel_rfl) (Nat.le_of_ble_eq_true (by kernel_rfl)) ?_
  dsimp only [LB, Tryd.f10, lite, nextOf, Option.isNone, Bool.not_true, Bool.not_false, Bool.and_true, Bool.true_and, Bool.false_and, Bool.and_self, Bool.false_eq_true, if_false, if_true, ↓reduceIte, liteO, List.map, Option.map, frame0, List.zipIdx, Nat.reduceAdd]
  try simp only [List.getElem?_toArray, List.getElem?_cons_succ, List.getElem?_cons_zero, Option.bind_some]
  repeat' (first
    | refine aC_seq ?_
    | refine aC_reg rfl ?_
    | refine aC_block ?_
    | refine aC_skip ?_
    | refine aC_loop ?_
    | refine aC_scope ?_
    | refine scopeQ_normal ?_
    | refine scopeQ_exit ?_
    | refine scopeQ_ret ?_
    | refine aC_exit ?_
    | refine aC_ret ?_
    | refine thenQ_normal ?_
    | refine blockQ_normal ?_
    | refine thenQ_ret ?_
    | refine blockQ_ret ?_
    | refine thenQ_exit ?_
    | refine blockQ_hit ?_
    | refine blockQ_miss rfl ?_
    | refine aL_nil ?_
    | (apply aL_step; (· exact True.intro); (· simp (disch := (first | omega | (simp only [List.length_set, List.length_append, List.length_cons, List.length_nil, List.length_take, List.length_drop, List.length_replicate, List.length_map, length_bl]; omega))) only [go_sem, get_miss, Nat.reduceEqDiff, ↓reduceIte, Nat.reduceAdd, Nat.reduceMul, Nat.reduceSub, Nat.reduceLT, Nat.reduceLeDiff, Int.reduceToNat, Int.reducePow, Int.reduceLE, Int.reduceLT, Int.reduceNeg, Int.reduceMul, Int.reduceAdd, Int.reduceSub, Nat.reduceBEq, Nat.reduceMod, Nat.reduceDiv, Nat.reducePow, reduceCtorEq, e0, e1, e2, e3, e5, e4, c1, c2, c3, c4]); (· simp (disch := (first | omega | (simp only [List.length_set, List.length_append, List.length_cons, List.length_nil, List.length_take, List.length_drop, List.length_replicate, List.length_map, length_bl]; omega))) only [go_sem, get_miss, Nat.reduceEqDiff, ↓reduceIte, Nat.reduceAdd, Nat.reduceMul, Nat.reduceSub, Nat.reduceLT, Nat.reduceLeDiff, Int.reduceToNat, Int.reducePow, Int.reduceLE, Int.reduceLT, Int.reduceNeg, Int.reduceMul, Int.reduceAdd, Int.reduceSub, Nat.reduceBEq, Nat.reduceMod, Nat.reduceDiv, Nat.reducePow, reduceCtorEq, e0, e1, e2, e3, e5, e4, c1, c2, c3, c4] <;> with_reducible rfl); (· simp only [go_sem] <;> with_reducible rfl))
    | (refine aL_skip ?_ (by simp only [go_sem] <;> with_reducible rfl) ?_; (· simp (disch := (first | omega | (simp only [List.length_set, List.length_append, List.length_cons, List.length_nil, List.length_take, List.length_drop, List.length_replicate, List.length_map, length_bl]; omega))) only [go_sem, get_miss, Nat.reduceEqDiff, ↓reduceIte, Nat.reduceAdd, Nat.reduceMul, Nat.reduceSub, Nat.reduceLT, Nat.reduceLeDiff, Int.reduceToNat, Int.reducePow, Int.reduceLE, Int.reduceLT, Int.reduceNeg, Int.reduceMul, Int.reduceAdd, Int.reduceSub, Nat.reduceBEq, Nat.reduceMod, Nat.reduceDiv, Nat.reducePow, reduceCtorEq, e0, e1, e2, e3, e5, e4, c1, c2, c3, c4]))
    | (apply aL_guardN; (· simp (disch := (first | omega | (simp only [List.length_set, List.length_append, List.length_cons, List.length_nil, List.length_take, List.length_drop, List.length_replicate, List.length_map, length_bl]; omega))) only [go_sem, get_miss, Nat.reduceEqDiff, ↓reduceIte, Nat.reduceAdd, Nat.reduceMul, Nat.reduceSub, Nat.reduceLT, Nat.reduceLeDiff, Int.reduceToNat, Int.reducePow, Int.reduceLE, Int.reduceLT, Int.reduceNeg, Int.reduceMul, Int.reduceAdd, Int.reduceSub, Nat.reduceBEq, Nat.reduceMod, Nat.reduceDiv, Nat.reducePow, reduceCtorEq, e0, e1, e2, e3, e5, e4, c1, c2, c3, c4] <;> with_reducible rfl); all_goals (intro h; first | (exfalso; omega) | (simp only [h, decide_true, decide_false, not_true, not_false_iff])))
    | (apply aL_guardP; (· simp (disch := (first | omega | (simp only [List.length_set, List.length_append, List.length_cons, List.length_nil, List.length_take, List.length_drop, List.length_replicate, List.length_map, length_bl]; omega))) only [go_sem, get_miss, Nat.reduceEqDiff, ↓reduceIte, Nat.reduceAdd, Nat.reduceMul, Nat.reduceSub, Nat.reduceLT, Nat.reduceLeDiff, Int.reduceToNat, Int.reducePow, Int.reduceLE, Int.reduceLT, Int.reduceNeg, Int.reduceMul, Int.reduceAdd, Int.reduceSub, Nat.reduceBEq, Nat.reduceMod, Nat.reduceDiv, Nat.reducePow, reduceCtorEq, e0, e1, e2, e3, e5, e4, c1, c2, c3, c4] <;> with_reducible rfl); all_goals (intro h; first | (exfalso; omega) | (simp only [h, decide_true, decide_false, not_true, not_false_iff])))
    | (refine aC_condT ?_ ?_; (· simp (disch := (first | omega | (simp only [List.length_set, List.length_append, List.length_cons, List.length_nil, List.length_take, List.length_drop, List.length_replicate, List.length_map, length_bl]; omega))) only [go_sem, get_miss, Nat.reduceEqDiff, ↓reduceIte, Nat.reduceAdd, Nat.reduceMul, Nat.reduceSub, Nat.reduceLT, Nat.reduceLeDiff, Int.reduceToNat, Int.reducePow, Int.reduceLE, Int.reduceLT, Int.reduceNeg, Int.reduceMul, Int.reduceAdd, Int.reduceSub, Nat.reduceBEq, Nat.reduceMod, Nat.reduceDiv, Nat.reducePow, reduceCtorEq, e0, e1, e2, e3, e5, e4, c1, c2, c3, c4]))
    | (refine aC_condF ?_ ?_; (· simp (disch := (first | omega | (simp only [List.length_set, List.length_append, List.length_cons, List.length_nil, List.length_take, List.length_drop, List.length_replicate, List.length_map, length_bl]; omega))) only [go_sem, get_miss, Nat.reduceEqDiff, ↓reduceIte, Nat.reduceAdd, Nat.reduceMul, Nat.reduceSub, Nat.reduceLT, Nat.reduceLeDiff, Int.reduceToNat, Int.reducePow, Int.reduceLE, Int.reduceLT, Int.reduceNeg, Int.reduceMul, Int.reduceAdd, Int.reduceSub, Nat.reduceBEq, Nat.reduceMod, Nat.reduceDiv, Nat.reducePow, reduceCtorEq, e0, e1, e2, e3, e5, e4, c1, c2, c3, c4]))
    | (refine aC_condP (by simp (disch := (first | omega | (simp only [List.length_set, List.length_append, List.length_cons, List.length_nil, List.length_take, List.length_drop, List.length_replicate, List.length_map, length_bl]; omega))) only [go_sem, get_miss, Nat.reduceEqDiff, ↓reduceIte, Nat.reduceAdd, Nat.reduceMul, Nat.reduceSub, Nat.reduceLT, Nat.reduceLeDiff, Int.reduceToNat, Int.reducePow, Int.reduceLE, Int.reduceLT, Int.reduceNeg, Int.reduceMul, Int.reduceAdd, Int.reduceSub, Nat.reduceBEq, Nat.reduceMod, Nat.reduceDiv, Nat.reducePow, reduceCtorEq, e0, e1, e2, e3, e5, e4, c1, c2, c3, c4] <;> with_reducible rfl) ?_ ?_ <;> (intro h; first | (exfalso; omega) | skip))
    | (apply aL_pure cxG (hm); (case hg => (simp (disch := (first | omega | (simp only [List.length_set, List.length_append, List.length_cons, List.length_nil, List.length_take, List.length_drop, List.length_replicate, List.length_map, length_bl]; omega))) only [go_sem, get_miss, Nat.reduceEqDiff, ↓reduceIte, Nat.reduceAdd, Nat.reduceMul, Nat.reduceSub, Nat.reduceLT, Nat.reduceLeDiff, Int.reduceToNat, Int.reducePow, Int.reduceLE, Int.reduceLT, Int.reduceNeg, Int.reduceMul, Int.reduceAdd, Int.reduceSub, Nat.reduceBEq, Nat.reduceMod, Nat.reduceDiv, Nat.reducePow, reduceCtorEq, e0, e1, e2, e3, e5, e4, c1, c2, c3, c4])); (case hx => (simp (disch := (first | omega | (simp only [List.length_set, List.length_append, List.length_cons, List.length_nil, List.length_take, List.length_drop, List.length_replicate, List.length_map, length_bl]; omega))) only [go_sem, get_miss, Nat.reduceEqDiff, ↓reduceIte, Nat.reduceAdd, Nat.reduceMul, Nat.reduceSub, Nat.reduceLT, Nat.reduceLeDiff, Int.reduceToNat, Int.reducePow, Int.reduceLE, Int.reduceLT, Int.reduceNeg, Int.reduceMul, Int.reduceAdd, Int.reduceSub, Nat.reduceBEq, Nat.reduceMod, Nat.reduceDiv, Nat.reducePow, reduceCtorEq, e0, e1, e2, e3, e5, e4, c1, c2, c3, c4] <;> with_reducible rfl)); (case ha => (simp (disch := (first | omega | (simp only [List.length_set, List.length_append, List.length_cons, List.length_nil, List.length_take, List.length_drop, List.length_replicate, List.length_map, length_bl]; omega))) only [go_sem, get_miss, Nat.reduceEqDiff, ↓reduceIte, Nat.reduceAdd, Nat.reduceMul, Nat.reduceSub, Nat.reduceLT, Nat.reduceLeDiff, Int.reduceToNat, Int.reducePow, Int.reduceLE, Int.reduceLT, Int.reduceNeg, Int.reduceMul, Int.reduceAdd, Int.reduceSub, Nat.reduceBEq, Nat.reduceMod, Nat.reduceDiv, Nat.reducePow, reduceCtorEq, e0, e1, e2, e3, e5, e4, c1, c2, c3, c4] <;> with_reducible rfl)); (case he => (simp only [go_sem] <;> with_reducible rfl)); (case hcl => (simp)); (case hf => (simp only [go_sem] <;> with_reducible rfl)))
    | fail)
  all_goals try (first | exact True.intro | omega)
  all_goals try (simp (disch := (first | omega | (simp only [List.length_set, List.length_append, List.length_cons, List.length_nil, List.length_take, List.length_drop, List.length_replicate, List.length_map, length_bl]; omega))) only [go_sem, get_miss, Nat.reduceEqDiff, ↓reduceIte, Nat.reduceAdd, Nat.reduceMul, Nat.reduceSub, Nat.reduceLT, Nat.reduceLeDiff, Int.reduceToNat, Int.reducePow, Int.reduceLE, Int.reduceLT, Int.reduceNeg, Int.reduceMul, Int.reduceAdd, Int.reduceSub, Nat.reduceBEq, Nat.reduceMod, Nat.reduceDiv, Nat.reducePow, reduceCtorEq] <;> first | exact True.intro | omega)
  all_goals (clear hm)
  all_goals try (simp (disch := (first | omega | (simp only [List.length_set, List.length_append, List.length_cons, List.length_nil, List.length_take, List.length_drop, List.length_replicate, List.length_map, length_bl]; omega))) only [go_sem, get_miss, Nat.reduceEqDiff, ↓reduceIte, Nat.reduceAdd, Nat.reduceMul, Nat.reduceSub, Nat.reduceLT, Nat.reduceLeDiff, Int.reduceToNat, Int.reducePow, Int.reduceLE, Int.reduceLT, Int.reduceNeg, Int.reduceMul, Int.reduceAdd, Int.reduceSub, Nat.reduceBEq, Nat.reduceMod, Nat.reduceDiv, Nat.reducePow, reduceCtorEq])
  all_goals try simp

end Go.Am
