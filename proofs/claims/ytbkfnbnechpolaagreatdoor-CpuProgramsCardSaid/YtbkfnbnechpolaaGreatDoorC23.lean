/- Words of instructions: the document's Decode. -/
import Derived.Test.YtbkfnbnechpolaaGreatDoorC22
set_option linter.unusedVariables false
set_option linter.unusedSimpArgs false
namespace Go.Am
open Go Go.Proofs
set_option linter.unusedSimpArgs false
set_option linter.unusedVariables false
set_option maxHeartbeats 8000000
set_option maxRecDepth 100000
attribute [local irreducible] aC aL thenQ blockQ scopeQ ALoop AWp

theorem getl_8 (w : Nat) (hw : w < 18446744073709551616) : getl ((putl w 8).drop 4) = w / 4294967296 := by
  simp [putl, List.range_succ, getl, ofNat_toNat8]
  omega

theorem ref_Decode (w : Nat) (hw : w < 18446744073709551616) :
    APure cx 27 [.int .u64 w] (if MayW w then .tup [.agg [.int .i64 ((w % 256 : Nat) : Int), .int .i64 ((w / 256 % 256 : Nat) : Int), .int .i64 ((w / 65536 % 256 : Nat) : Int), .int .i64 ((w / 16777216 % 256 : Nat) : Int), .int .i64 (immW w)], .bool true]
      else .tup [.agg [.int .i64 0, .int .i64 0, .int .i64 0, .int .i64 0, .int .i64 0], .bool false]) := by
  have hp : APure cx 42 [.int .u64 w, .int .i64 8] (.sl 1 false (bl (putl w 8)) .any) := ref_put w 8 hw (by decide)
  have hg := ref_get false ((putl w 8).drop 4) (by simp)
  rw [getl_8 w hw] at hg
  have hm := ref_may ((w % 256 : Nat) : Int) ((w / 256 % 256 : Nat) : Int) ((w / 65536 % 256 : Nat) : Int) ((w / 16777216 % 256 : Nat) : Int) (immW w)
  have hmw : MayW w ↔ MayF ((w % 256 : Nat) : Int) ((w / 256 % 256 : Nat) : Int) ((w / 65536 % 256 : Nat) : Int) ((w / 16777216 % 256 : Nat) : Int) (immW w) (frm ((w % 256 : Nat) : Int)).1 (frm ((w % 256 : Nat) : Int)).2 := Iff.rfl
  have q0 : (((putl w 8).getD 0 0).toNat : Int) = ((w % 256 : Nat) : Int) := by simp [putl, List.range_succ, ofNat_toNat8]
  have q1 : (((putl w 8).getD 1 0).toNat : Int) = ((w / 256 % 256 : Nat) : Int) := by simp [putl, List.range_succ, ofNat_toNat8]
  have q2 : (((putl w 8).getD 2 0).toNat : Int) = ((w / 65536 % 256 : Nat) : Int) := by simp [putl, List.range_succ, ofNat_toNat8]
  have q3 : (((putl w 8).getD 3 0).toNat : Int) = ((w / 16777216 % 256 : Nat) : Int) := by simp [putl, List.range_succ, ofNat_toNat8]
  have c0 : ∀ n : Nat, IntKind.i64.wrap ((n % 256 : Nat) : Int) = ((n % 256 : Nat) : Int) := fun n => IntWalk.i64_in _ ⟨by omega, by omega⟩
  have c5 : IntKind.i64.wrap ((w / 4294967296 : Nat) : Int) = ((w / 4294967296 : Nat) : Int) := IntWalk.i64_in _ ⟨by omega, by omega⟩
  have hlen : (putl w 8).length = 8 := putl_length w 8
  by_cases h : MayW w
  case' pos =>
    rw [decide_eq_true (hmw.1 h)] at hm
    rw [if_pos h]
  case' neg =>
    rw [decide_eq_false (fun k => h (hmw.2 k))] at hm
    rw [if_neg h]
  all_goals
  clear h hmw
  have c1 := c0 w
  have c2 := c0 (w / 256)
  have c3 := c0 (w / 65536)
  have c4 := c0 (w / 16777216)
  have hI : immW w = if 2147483648 ≤ ((w / 4294967296 : Nat) : Int) then ((w / 4294967296 : Nat) : Int) - 4294967296 else ((w / 4294967296 : Nat) : Int) := by
    unfold immW
    split <;> split <;> omega
  have hIw : ((w / 4294967296 : Nat) : Int) < 4294967296 := by omega
  have hI0 : 0 ≤ ((w / 4294967296 : Nat) : Int) := by omega
  generalize immW w = x4 at *
  generalize ((w / 4294967296 : Nat) : Int) = x5 at *
  generalize ((w % 256 : Nat) : Int) = x0 at *
  generalize ((w / 256 % 256 : Nat) : Int) = x1 at *
  generalize ((w / 65536 % 256 : Nat) : Int) = x2 at *
  generalize ((w / 16777216 % 256 : Nat) : Int) = x3 at *
  generalize putl w 8 = l at *
  clear c0 hw
  by_cases hb : 2147483648 ≤ x5
  case' pos => rw [if_pos hb] at hI
  case' neg => rw [if_neg hb] at hI
  all_goals
  subst hI
  refine pure_fn cxOk Tryz.func27 (by kernel_rfl) (fun _ => false) (fe27.q) (by kernel_rfl) (Nat.le_of_ble_eq_true (by kernel_rfl)) ?_
  dsimp only [LB, Tryz.f27, lite, nextOf, Option.isNone, Bool.not_true, Bool.not_false, Bool.and_true, Bool.true_and, Bool.false_and, Bool.and_self, Bool.false_eq_true, if_false, if_true, ↓reduceIte, liteO, List.map, Option.map, frame0, List.zipIdx, Nat.reduceAdd]
  try simp only [List.getElem?_toArray, List.getElem?_cons_succ, List.getElem?_cons_zero, Option.bind_some]
  repeat' (first
    | refine aC_seq ?_
    | refine aC_reg rfl ?_
    | refine aC_block ?_
    | refine aC_skip ?_
    | refine aC_loop ?_
    | refine aC_scope ?_
    | refine scopeQ_normal ?_
    | refine scopeQ_exit ?_
    | refine scopeQ_ret ?_
    | refine aC_exit ?_
    | refine aC_ret ?_
    | refine thenQ_normal ?_
    | refine blockQ_normal ?_
    | refine thenQ_ret ?_
    | refine blockQ_ret ?_
    | refine thenQ_exit ?_
    | refine blockQ_hit ?_
    | refine blockQ_miss rfl ?_
    | refine aL_nil ?_
    | (apply aL_step; (· exact True.intro); (· simp (disch := first | omega | (simp only [go_sem]; omega)) only [go_sem, get_miss, seval, reduceCtorEq]); (· simp (disch := first | omega | (simp only [go_sem]; omega)) only [go_sem, get_miss, seval, reduceCtorEq] <;> with_reducible rfl); (· simp only [go_sem] <;> with_reducible rfl))
    | (refine aL_skip ?_ (by simp only [go_sem] <;> with_reducible rfl) ?_; (· simp (disch := first | omega | (simp only [go_sem]; omega)) only [go_sem, get_miss, seval, reduceCtorEq]))
    | (apply aL_guardN; (· simp (disch := first | omega | (simp only [go_sem]; omega)) only [go_sem, get_miss, seval, reduceCtorEq] <;> with_reducible rfl); all_goals (intro h; first | (exfalso; omega) | (simp only [h, decide_true, decide_false, not_true, not_false_iff])))
    | (apply aL_guardP; (· simp (disch := first | omega | (simp only [go_sem]; omega)) only [go_sem, get_miss, seval, reduceCtorEq] <;> with_reducible rfl); all_goals (intro h; first | (exfalso; omega) | (simp only [h, decide_true, decide_false, not_true, not_false_iff])))
    | (refine aC_condT ?_ ?_; (· simp (disch := first | omega | (simp only [go_sem]; omega)) only [go_sem, get_miss, seval, reduceCtorEq]))
    | (refine aC_condF ?_ ?_; (· simp (disch := first | omega | (simp only [go_sem]; omega)) only [go_sem, get_miss, seval, reduceCtorEq]))
    | (refine aC_condP (by simp (disch := first | omega | (simp only [go_sem]; omega)) only [go_sem, get_miss, seval, reduceCtorEq] <;> with_reducible rfl) ?_ ?_ <;> (intro h; first | (exfalso; omega) | skip))
    | (apply aL_pure cxG (hp); (case hg => (simp (disch := first | omega | (simp only [go_sem]; omega)) only [go_sem, get_miss, seval, reduceCtorEq])); (case hx => (simp (disch := first | omega | (simp only [go_sem]; omega)) only [go_sem, get_miss, seval, reduceCtorEq] <;> with_reducible rfl)); (case ha => (simp (disch := first | omega | (simp only [go_sem]; omega)) only [go_sem, get_miss, seval, reduceCtorEq] <;> with_reducible rfl)); (case he => (simp only [go_sem] <;> with_reducible rfl)); (case hcl => (simp)); (case hf => (simp only [go_sem] <;> with_reducible rfl)))
    | (apply aL_pure cxG (hg); (case hg => (simp (disch := first | omega | (simp only [go_sem]; omega)) only [go_sem, get_miss, seval, reduceCtorEq])); (case hx => (simp (disch := first | omega | (simp only [go_sem]; omega)) only [go_sem, get_miss, seval, reduceCtorEq] <;> with_reducible rfl)); (case ha => (simp (disch := first | omega | (simp only [go_sem]; omega)) only [go_sem, get_miss, seval, reduceCtorEq] <;> with_reducible rfl)); (case he => (simp only [go_sem] <;> with_reducible rfl)); (case hcl => (simp)); (case hf => (simp only [go_sem] <;> with_reducible rfl)))
    | fail)
  refine aC_regH (U := [(some 19, some 6), (some 23, some 6), (some 27, some 6), (some 31, some 6)]) rfl [] [(1, .cells [.int .i64 0, .int .i64 0, .int .i64 0, .int .i64 0, .int .i64 0] 41)] 1 ?_
  simp only [List.replicate]
  repeat' (first
    | refine aLH_nil ?_
    | (apply aLH_step; (· exact True.intro); (· rfl); (· rfl); (· simp (disch := first | omega | (simp only [go_sem]; omega)) only [go_sem, get_miss, seval, reduceCtorEq, q0, q1, q2, q3, c1, c2, c3, c4]); (· simp (disch := first | omega | (simp only [go_sem]; omega)) only [go_sem, get_miss, seval, reduceCtorEq, q0, q1, q2, q3, c1, c2, c3, c4] <;> with_reducible rfl); (· simp only [go_sem] <;> with_reducible rfl); (· (intro b hb; first | (cases hb; done) | (simp (disch := first | omega | (simp only [go_sem]; omega)) only [loadBox, go_sem, get_miss, seval, reduceCtorEq] at hb; (try injection hb with hb); subst hb; simp))))
    | (apply aLH_write; (· exact True.intro); (· rfl); (· rfl); (· rfl); (· simp (disch := first | omega | (simp only [go_sem]; omega)) only [go_sem, get_miss, seval, reduceCtorEq, q0, q1, q2, q3, c1, c2, c3, c4]); (· simp (disch := first | omega | (simp only [go_sem]; omega)) only [go_sem, get_miss, seval, reduceCtorEq, q0, q1, q2, q3, c1, c2, c3, c4] <;> with_reducible rfl); (· simp only [go_sem] <;> with_reducible rfl); (· simp); (· simp); (· simp))
    | (refine aLH_skip ?_ (by simp only [go_sem] <;> with_reducible rfl) ?_; (· simp (disch := first | omega | (simp only [go_sem]; omega)) only [go_sem, get_miss, seval, reduceCtorEq, q0, q1, q2, q3, c1, c2, c3, c4]))
    | (apply aLH_alloc 1; (case hg => (simp (disch := first | omega | (simp only [go_sem]; omega)) only [go_sem, get_miss, seval, reduceCtorEq, q0, q1, q2, q3, c1, c2, c3, c4])); (case hi => (simp (disch := first | omega | (simp only [go_sem]; omega)) only [go_sem, get_miss, seval, reduceCtorEq, q0, q1, q2, q3, c1, c2, c3, c4] <;> with_reducible rfl)); (case hs => (simp (disch := first | omega | (simp only [go_sem]; omega)) only [go_sem, get_miss, seval, reduceCtorEq, q0, q1, q2, q3, c1, c2, c3, c4] <;> with_reducible rfl)); (case hS => (simp (disch := first | omega | (simp only [go_sem]; omega)) only [go_sem, get_miss, seval, reduceCtorEq, q0, q1, q2, q3, c1, c2, c3, c4] <;> with_reducible rfl)); (case hf => (simp only [go_sem] <;> with_reducible rfl)); (case hH => (simp)); (case hk => (simp)))
    | fail)
  repeat' (first
    | refine aC_seq ?_
    | refine aC_reg rfl ?_
    | refine aC_block ?_
    | refine aC_skip ?_
    | refine aC_loop ?_
    | refine aC_scope ?_
    | refine scopeQ_normal ?_
    | refine scopeQ_exit ?_
    | refine scopeQ_ret ?_
    | refine aC_exit ?_
    | refine aC_ret ?_
    | refine thenQ_normal ?_
    | refine blockQ_normal ?_
    | refine thenQ_ret ?_
    | refine blockQ_ret ?_
    | refine thenQ_exit ?_
    | refine blockQ_hit ?_
    | refine blockQ_miss rfl ?_
    | refine aL_nil ?_
    | (apply aL_step; (· exact True.intro); (· simp (disch := first | omega | (simp only [go_sem]; omega)) only [go_sem, get_miss, seval, reduceCtorEq]); (· simp (disch := first | omega | (simp only [go_sem]; omega)) only [go_sem, get_miss, seval, reduceCtorEq] <;> with_reducible rfl); (· simp only [go_sem] <;> with_reducible rfl))
    | (refine aL_skip ?_ (by simp only [go_sem] <;> with_reducible rfl) ?_; (· simp (disch := first | omega | (simp only [go_sem]; omega)) only [go_sem, get_miss, seval, reduceCtorEq]))
    | (apply aL_guardN; (· simp (disch := first | omega | (simp only [go_sem]; omega)) only [go_sem, get_miss, seval, reduceCtorEq] <;> with_reducible rfl); all_goals (intro h; first | (exfalso; omega) | (simp only [h, decide_true, decide_false, not_true, not_false_iff])))
    | (apply aL_guardP; (· simp (disch := first | omega | (simp only [go_sem]; omega)) only [go_sem, get_miss, seval, reduceCtorEq] <;> with_reducible rfl); all_goals (intro h; first | (exfalso; omega) | (simp only [h, decide_true, decide_false, not_true, not_false_iff])))
    | (refine aC_condT ?_ ?_; (· simp (disch := first | omega | (simp only [go_sem]; omega)) only [go_sem, get_miss, seval, reduceCtorEq]))
    | (refine aC_condF ?_ ?_; (· simp (disch := first | omega | (simp only [go_sem]; omega)) only [go_sem, get_miss, seval, reduceCtorEq]))
    | (refine aC_condP (by simp (disch := first | omega | (simp only [go_sem]; omega)) only [go_sem, get_miss, seval, reduceCtorEq] <;> with_reducible rfl) ?_ ?_ <;> (intro h; first | (exfalso; omega) | skip))
    | (apply aL_pure cxG (hm); (case hg => (simp (disch := first | omega | (simp only [go_sem]; omega)) only [go_sem, get_miss, seval, reduceCtorEq])); (case hx => (simp (disch := first | omega | (simp only [go_sem]; omega)) only [go_sem, get_miss, seval, reduceCtorEq] <;> with_reducible rfl)); (case ha => (simp (disch := first | omega | (simp only [go_sem]; omega)) only [go_sem, get_miss, seval, reduceCtorEq] <;> with_reducible rfl)); (case he => (simp only [go_sem] <;> with_reducible rfl)); (case hcl => (simp)); (case hf => (simp only [go_sem] <;> with_reducible rfl)))
    | fail)
  all_goals try (first | exact True.intro | omega)
  all_goals try (simp (disch := first | omega | (simp only [go_sem]; omega)) only [go_sem, get_miss, seval, reduceCtorEq] <;> first | exact True.intro | omega)
  all_goals (clear hp hg hm)
  all_goals try (simp (disch := first | omega | (simp only [go_sem]; omega)) only [go_sem, get_miss, seval, reduceCtorEq])
  all_goals try simp
end Go.Am
