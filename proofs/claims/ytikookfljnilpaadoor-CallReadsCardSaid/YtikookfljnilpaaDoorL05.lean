/- A call's bytes: Bytes, Of; the document's. -/
import Derived.Test.YtikookfljnilpaaDoorL04
set_option linter.unusedVariables false
set_option linter.unusedSimpArgs false
namespace Go.Am
open Go Go.Proofs
set_option linter.unusedSimpArgs false
set_option linter.unusedVariables false
set_option maxHeartbeats 4000000
set_option maxRecDepth 100000
section
attribute [local irreducible] aC aL thenQ blockQ scopeQ ALoop AWp

/-- The words of bytes. -/
def wds (l : List UInt8) (k : Nat) : List Nat := (List.range k).map (fun j => wdB l (j + 1)) ++ List.replicate (6 - k) 0
theorem wds_len (l : List UInt8) (k : Nat) (h : k ≤ 6) : (wds l k).length = 6 := by simp [wds]; omega
theorem wds_succ (l : List UInt8) (k : Nat) (h : k < 6) : (wds l k).set k (wdB l (k + 1)) = wds l (k + 1) := by
  unfold wds
  rw [List.set_append_right _ _ (by simp), List.range_succ, List.map_append]
  obtain ⟨m, hm⟩ : ∃ m, 6 - k = m + 1 := ⟨5 - k, by omega⟩
  rw [hm, List.replicate_succ, show 6 - (k + 1) = m by omega]
  simp
def OfOk (l : List UInt8) : Prop := l.length = 56 ∧ MayC (wdB l 0) (wds l 6)
instance (l : List UInt8) : Decidable (OfOk l) := by unfold OfOk; infer_instance
theorem zero_wl : ([.int .i64 0, .int .u64 0, .int .u64 0, .int .u64 0, .int .u64 0, .int .u64 0, .int .u64 0] : List AVal) = .int .i64 0 :: wl [0, 0, 0, 0, 0, 0] := rfl

theorem call_Of (nl : Bool) (l : List UInt8) (hl : l.length ≤ 1048576) : APure cx 27 [.sl 1 nl (bl l) .any]
    (if OfOk l then .tup [.agg (.int .i64 (wdB l 0 : Nat) :: wl (wds l 6)), .int .i64 0] else .tup [.agg (.int .i64 0 :: wl [0, 0, 0, 0, 0, 0]), .int .i64 4]) := by
  rw [← zero_wl]
  by_cases h56 : l.length = 56
  case neg =>
    rw [if_neg (fun h : OfOk l => h56 h.1)]
    have h56' : ¬ ((l.length : Int) = 56) := by omega
    refine pure_fn cxOk Tryd.func27 (by kernel_rfl) (fun _ => false) (fun _ => none) (by kernel_rfl) (Nat.le_of_ble_eq_true (by kernel_rfl)) ?_
    dsimp only [LB, Tryd.f27, lite, nextOf, Option.isNone, Bool.not_true, Bool.not_false, Bool.and_true, Bool.true_and, Bool.false_and, Bool.and_self, Bool.false_eq_true, if_false, if_true, ↓reduceIte, liteO, List.map, Option.map, frame0, List.zipIdx, Nat.reduceAdd]
    try simp only [List.getElem?_toArray, List.getElem?_cons_succ, List.getElem?_cons_zero, Option.bind_some]
    repeat' (first
      | refine aC_seq ?_
      | refine aC_reg rfl ?_
      | refine aC_block ?_
      | refine aC_skip ?_
      | refine aC_loop ?_
      | refine aC_scope ?_
      | refine scopeQ_normal ?_
      | refine scopeQ_exit ?_
      | refine scopeQ_ret ?_
      | refine aC_exit ?_
      | refine aC_ret ?_
      | refine thenQ_normal ?_
      | refine blockQ_normal ?_
      | refine thenQ_ret ?_
      | refine blockQ_ret ?_
      | refine thenQ_exit ?_
      | refine blockQ_hit ?_
      | refine blockQ_miss rfl ?_
      | refine aL_nil ?_
      | (apply aL_step; (· exact True.intro); (· simp (disch := first | omega | (simp only [go_sem]; omega)) only [go_sem, get_miss, seval, reduceCtorEq, h56', decide_true, decide_false, not_false_eq_true, not_true_eq_false]); (· simp (disch := first | omega | (simp only [go_sem]; omega)) only [go_sem, get_miss, seval, reduceCtorEq, h56', decide_true, decide_false, not_false_eq_true, not_true_eq_false] <;> with_reducible rfl); (· simp only [go_sem] <;> with_reducible rfl))
      | (refine aL_skip ?_ (by simp only [go_sem] <;> with_reducible rfl) ?_; (· simp (disch := first | omega | (simp only [go_sem]; omega)) only [go_sem, get_miss, seval, reduceCtorEq, h56', decide_true, decide_false, not_false_eq_true, not_true_eq_false]))
      | (apply aL_guardN; (· simp (disch := first | omega | (simp only [go_sem]; omega)) only [go_sem, get_miss, seval, reduceCtorEq, h56', decide_true, decide_false, not_false_eq_true, not_true_eq_false] <;> with_reducible rfl); all_goals (intro h; first | (exfalso; omega) | (simp only [h, decide_true, decide_false, not_true, not_false_iff])))
      | (apply aL_guardP; (· simp (disch := first | omega | (simp only [go_sem]; omega)) only [go_sem, get_miss, seval, reduceCtorEq, h56', decide_true, decide_false, not_false_eq_true, not_true_eq_false] <;> with_reducible rfl); all_goals (intro h; first | (exfalso; omega) | (simp only [h, decide_true, decide_false, not_true, not_false_iff])))
      | (refine aC_condT ?_ ?_; (· simp (disch := first | omega | (simp only [go_sem]; omega)) only [go_sem, get_miss, seval, reduceCtorEq, h56', decide_true, decide_false, not_false_eq_true, not_true_eq_false]))
      | (refine aC_condF ?_ ?_; (· simp (disch := first | omega | (simp only [go_sem]; omega)) only [go_sem, get_miss, seval, reduceCtorEq, h56', decide_true, decide_false, not_false_eq_true, not_true_eq_false]))
      | (refine aC_condP (by simp (disch := first | omega | (simp only [go_sem]; omega)) only [go_sem, get_miss, seval, reduceCtorEq, h56', decide_true, decide_false, not_false_eq_true, not_true_eq_false] <;> with_reducible rfl) ?_ ?_ <;> (intro h; first | (exfalso; omega) | skip))
      | fail)
    all_goals try (first | exact True.intro | exact not_false | omega)
    all_goals try (simp (disch := first | omega | (simp only [go_sem]; omega)) only [go_sem, get_miss, seval, reduceCtorEq] <;> first | exact True.intro | omega)
    all_goals try (simp (disch := first | omega | (simp only [go_sem]; omega)) only [go_sem, get_miss, seval, reduceCtorEq])
    all_goals try simp
  case pos =>
  have h56' : (l.length : Int) = 56 := by omega
  have hw0 := wire_word nl l 0 0 rfl (by omega) hl
  have hlt0 := wdB_lt l 0
  have hwk : ∀ k : Nat, k < 6 → APure cx 47 [.sl 1 nl (bl l) .any, .int .i64 (1 + (k : Int))] (.int .u64 (wdB l (k + 1))) := fun k hk => wire_word nl l (1 + (k : Int)) (k + 1) (by omega) (by omega) hl
  have hok : OfOk l ↔ MayC (wdB l 0) (wds l 6) := ⟨fun h => h.2, fun h => ⟨h56, h⟩⟩
  by_cases h21 : wdB l 0 ≤ 21
  case neg =>
    rw [if_neg (fun h : OfOk l => h21 (by have := (hok.1 h).1; omega))]
    clear hok hwk
    generalize wdB l 0 = W at *
    refine pure_fn cxOk Tryd.func27 (by kernel_rfl) (fun _ => false) (fun _ => none) (by kernel_rfl) (Nat.le_of_ble_eq_true (by kernel_rfl)) ?_
    dsimp only [LB, Tryd.f27, lite, nextOf, Option.isNone, Bool.not_true, Bool.not_false, Bool.and_true, Bool.true_and, Bool.false_and, Bool.and_self, Bool.false_eq_true, if_false, if_true, ↓reduceIte, liteO, List.map, Option.map, frame0, List.zipIdx, Nat.reduceAdd]
    try simp only [List.getElem?_toArray, List.getElem?_cons_succ, List.getElem?_cons_zero, Option.bind_some]
    repeat' (first
      | refine aC_seq ?_
      | refine aC_reg rfl ?_
      | refine aC_block ?_
      | refine aC_skip ?_
      | refine aC_loop ?_
      | refine aC_scope ?_
      | refine scopeQ_normal ?_
      | refine scopeQ_exit ?_
      | refine scopeQ_ret ?_
      | refine aC_exit ?_
      | refine aC_ret ?_
      | refine thenQ_normal ?_
      | refine blockQ_normal ?_
      | refine thenQ_ret ?_
      | refine blockQ_ret ?_
      | refine thenQ_exit ?_
      | refine blockQ_hit ?_
      | refine blockQ_miss rfl ?_
      | refine aL_nil ?_
      | (apply aL_step; (· exact True.intro); (· simp (disch := first | omega | (simp only [go_sem]; omega)) only [go_sem, get_miss, seval, reduceCtorEq, h56', decide_true, decide_false, not_false_eq_true, not_true_eq_false]); (· simp (disch := first | omega | (simp only [go_sem]; omega)) only [go_sem, get_miss, seval, reduceCtorEq, h56', decide_true, decide_false, not_false_eq_true, not_true_eq_false] <;> with_reducible rfl); (· simp only [go_sem] <;> with_reducible rfl))
      | (refine aL_skip ?_ (by simp only [go_sem] <;> with_reducible rfl) ?_; (· simp (disch := first | omega | (simp only [go_sem]; omega)) only [go_sem, get_miss, seval, reduceCtorEq, h56', decide_true, decide_false, not_false_eq_true, not_true_eq_false]))
      | (apply aL_guardN; (· simp (disch := first | omega | (simp only [go_sem]; omega)) only [go_sem, get_miss, seval, reduceCtorEq, h56', decide_true, decide_false, not_false_eq_true, not_true_eq_false] <;> with_reducible rfl); all_goals (intro h; first | (exfalso; omega) | (simp only [h, decide_true, decide_false, not_true, not_false_iff])))
      | (apply aL_guardP; (· simp (disch := first | omega | (simp only [go_sem]; omega)) only [go_sem, get_miss, seval, reduceCtorEq, h56', decide_true, decide_false, not_false_eq_true, not_true_eq_false] <;> with_reducible rfl); all_goals (intro h; first | (exfalso; omega) | (simp only [h, decide_true, decide_false, not_true, not_false_iff])))
      | (refine aC_condT ?_ ?_; (· simp (disch := first | omega | (simp only [go_sem]; omega)) only [go_sem, get_miss, seval, reduceCtorEq, h56', decide_true, decide_false, not_false_eq_true, not_true_eq_false]))
      | (refine aC_condF ?_ ?_; (· simp (disch := first | omega | (simp only [go_sem]; omega)) only [go_sem, get_miss, seval, reduceCtorEq, h56', decide_true, decide_false, not_false_eq_true, not_true_eq_false]))
      | (refine aC_condP (by simp (disch := first | omega | (simp only [go_sem]; omega)) only [go_sem, get_miss, seval, reduceCtorEq, h56', decide_true, decide_false, not_false_eq_true, not_true_eq_false] <;> with_reducible rfl) ?_ ?_ <;> (intro h; first | (exfalso; omega) | skip))
      | (apply aL_pure cxG (hw0); (case hg => (simp (disch := first | omega | (simp only [go_sem]; omega)) only [go_sem, get_miss, seval, reduceCtorEq, h56', decide_true, decide_false, not_false_eq_true, not_true_eq_false])); (case hx => (simp (disch := first | omega | (simp only [go_sem]; omega)) only [go_sem, get_miss, seval, reduceCtorEq, h56', decide_true, decide_false, not_false_eq_true, not_true_eq_false] <;> with_reducible rfl)); (case ha => (simp (disch := first | omega | (simp only [go_sem]; omega)) only [go_sem, get_miss, seval, reduceCtorEq, h56', decide_true, decide_false, not_false_eq_true, not_true_eq_false] <;> with_reducible rfl)); (case he => (simp only [go_sem] <;> with_reducible rfl)); (case hcl => (simp)); (case hf => (simp only [go_sem] <;> with_reducible rfl)))
      | fail)
    all_goals try (first | exact True.intro | exact not_false | omega)
    all_goals try (simp (disch := first | omega | (simp only [go_sem]; omega)) only [go_sem, get_miss, seval, reduceCtorEq] <;> first | exact True.intro | omega)
    all_goals (clear hw0)
    all_goals try (simp (disch := first | omega | (simp only [go_sem]; omega)) only [go_sem, get_miss, seval, reduceCtorEq])
    all_goals try simp
  case pos =>
  have hm := call_May (wdB l 0) (wds l 6) (wds_len l 6 (by decide))
  generalize hr : (if OfOk l then AVal.tup [.agg (.int .i64 (wdB l 0 : Nat) :: wl (wds l 6)), .int .i64 0] else AVal.tup [.agg [.int .i64 0, .int .u64 0, .int .u64 0, .int .u64 0, .int .u64 0, .int .u64 0, .int .u64 0], .int .i64 4]) = r
  have hyes : MayC (wdB l 0) (wds l 6) → r = AVal.tup [.agg (.int .i64 (wdB l 0 : Nat) :: wl (wds l 6)), .int .i64 0] := fun h => by rw [← hr, if_pos (hok.2 h)]
  have hno : ¬ MayC (wdB l 0) (wds l 6) → r = AVal.tup [.agg [.int .i64 0, .int .u64 0, .int .u64 0, .int .u64 0, .int .u64 0, .int .u64 0, .int .u64 0], .int .i64 4] := fun h => by rw [← hr, if_neg (fun k => h (hok.1 k))]
  clear hr hok
  have hlen := wds_len l
  generalize wdB l 0 = W at *
  refine pure_fn cxOk Tryd.func27 (by kernel_rfl) (fun _ => false) (fun _ => none) (by kernel_rfl) (Nat.le_of_ble_eq_true (by kernel_rfl)) ?_
  dsimp only [LB, Tryd.f27, lite, nextOf, Option.isNone, Bool.not_true, Bool.not_false, Bool.and_true, Bool.true_and, Bool.false_and, Bool.and_self, Bool.false_eq_true, if_false, if_true, ↓reduceIte, liteO, List.map, Option.map, frame0, List.zipIdx, Nat.reduceAdd]
  try simp only [List.getElem?_toArray, List.getElem?_cons_succ, List.getElem?_cons_zero, Option.bind_some]
  repeat' (first
    | refine aC_seq ?_
    | refine aC_reg rfl ?_
    | refine aC_block ?_
    | refine aC_skip ?_
    | refine aC_loop ?_
    | refine aC_scope ?_
    | refine scopeQ_normal ?_
    | refine scopeQ_exit ?_
    | refine scopeQ_ret ?_
    | refine aC_exit ?_
    | refine aC_ret ?_
    | refine thenQ_normal ?_
    | refine blockQ_normal ?_
    | refine thenQ_ret ?_
    | refine blockQ_ret ?_
    | refine thenQ_exit ?_
    | refine blockQ_hit ?_
    | refine blockQ_miss rfl ?_
    | refine aL_nil ?_
    | (apply aL_step; (· exact True.intro); (· simp (disch := first | omega | (simp only [go_sem]; omega)) only [go_sem, get_miss, seval, reduceCtorEq, h56', decide_true, decide_false, not_false_eq_true, not_true_eq_false]); (· simp (disch := first | omega | (simp only [go_sem]; omega)) only [go_sem, get_miss, seval, reduceCtorEq, h56', decide_true, decide_false, not_false_eq_true, not_true_eq_false] <;> with_reducible rfl); (· simp only [go_sem] <;> with_reducible rfl))
    | (refine aL_skip ?_ (by simp only [go_sem] <;> with_reducible rfl) ?_; (· simp (disch := first | omega | (simp only [go_sem]; omega)) only [go_sem, get_miss, seval, reduceCtorEq, h56', decide_true, decide_false, not_false_eq_true, not_true_eq_false]))
    | (apply aL_guardN; (· simp (disch := first | omega | (simp only [go_sem]; omega)) only [go_sem, get_miss, seval, reduceCtorEq, h56', decide_true, decide_false, not_false_eq_true, not_true_eq_false] <;> with_reducible rfl); all_goals (intro h; first | (exfalso; omega) | (simp only [h, decide_true, decide_false, not_true, not_false_iff])))
    | (apply aL_guardP; (· simp (disch := first | omega | (simp only [go_sem]; omega)) only [go_sem, get_miss, seval, reduceCtorEq, h56', decide_true, decide_false, not_false_eq_true, not_true_eq_false] <;> with_reducible rfl); all_goals (intro h; first | (exfalso; omega) | (simp only [h, decide_true, decide_false, not_true, not_false_iff])))
    | (refine aC_condT ?_ ?_; (· simp (disch := first | omega | (simp only [go_sem]; omega)) only [go_sem, get_miss, seval, reduceCtorEq, h56', decide_true, decide_false, not_false_eq_true, not_true_eq_false]))
    | (refine aC_condF ?_ ?_; (· simp (disch := first | omega | (simp only [go_sem]; omega)) only [go_sem, get_miss, seval, reduceCtorEq, h56', decide_true, decide_false, not_false_eq_true, not_true_eq_false]))
    | (refine aC_condP (by simp (disch := first | omega | (simp only [go_sem]; omega)) only [go_sem, get_miss, seval, reduceCtorEq, h56', decide_true, decide_false, not_false_eq_true, not_true_eq_false] <;> with_reducible rfl) ?_ ?_ <;> (intro h; first | (exfalso; omega) | skip))
    | (apply aL_pure cxG (hw0); (case hg => (simp (disch := first | omega | (simp only [go_sem]; omega)) only [go_sem, get_miss, seval, reduceCtorEq, h56', decide_true, decide_false, not_false_eq_true, not_true_eq_false])); (case hx => (simp (disch := first | omega | (simp only [go_sem]; omega)) only [go_sem, get_miss, seval, reduceCtorEq, h56', decide_true, decide_false, not_false_eq_true, not_true_eq_false] <;> with_reducible rfl)); (case ha => (simp (disch := first | omega | (simp only [go_sem]; omega)) only [go_sem, get_miss, seval, reduceCtorEq, h56', decide_true, decide_false, not_false_eq_true, not_true_eq_false] <;> with_reducible rfl)); (case he => (simp only [go_sem] <;> with_reducible rfl)); (case hcl => (simp)); (case hf => (simp only [go_sem] <;> with_reducible rfl)))
    | fail)
  · clear hw0
    refine loop_rule (cxOk.wp _ _) (σ := Nat) (fun k => [(19, .int .i64 k), (4, .ptr 1 0), (2, .ptr 0 0), (0, .sl 1 nl (bl l) .any)])
      (fun k => [.cells [.int .i64 0, .int .u64 0, .int .u64 0, .int .u64 0, .int .u64 0, .int .u64 0, .int .u64 0] 32, .cells (.int .i64 (W : Int) :: wl (wds l k)) 32]) (fun k => 6 - k) (fun k => k ≤ 6) 0 (GStep.refl _ _) ⟨Nat.zero_le _, Sub.of_all (by simp [Fr.get, frame0]), by simp [wds, wl]⟩ ?_
    intro k hk
    have hlk := hlen k hk
    by_cases hlt : k < 6
    · have hw := hwk k hlt
      have hs := wds_succ l k hlt
      clear hyes hno hwk hm
      generalize wdB l (k + 1) = V at *
      generalize wds l k = D at *
      repeat' (first
        | refine aC_seq ?_
        | refine aC_reg rfl ?_
        | refine aC_block ?_
        | refine aC_skip ?_
        | refine aC_loop ?_
        | refine aC_scope ?_
        | refine scopeQ_normal ?_
        | refine scopeQ_exit ?_
        | refine scopeQ_ret ?_
        | refine aC_exit ?_
        | refine aC_ret ?_
        | refine thenQ_normal ?_
        | refine blockQ_normal ?_
        | refine thenQ_ret ?_
        | refine blockQ_ret ?_
        | refine thenQ_exit ?_
        | refine blockQ_hit ?_
        | refine blockQ_miss rfl ?_
        | refine aL_nil ?_
        | (apply aL_step; (· exact True.intro); (· simp (disch := first | omega | (simp only [go_sem]; omega)) only [go_sem, get_miss, seval, reduceCtorEq, Nat.mul_one, hs]); (· simp (disch := first | omega | (simp only [go_sem]; omega)) only [go_sem, get_miss, seval, reduceCtorEq, Nat.mul_one, hs] <;> with_reducible rfl); (· simp only [go_sem] <;> with_reducible rfl))
        | (refine aL_skip ?_ (by simp only [go_sem] <;> with_reducible rfl) ?_; (· simp (disch := first | omega | (simp only [go_sem]; omega)) only [go_sem, get_miss, seval, reduceCtorEq, Nat.mul_one, hs]))
        | (apply aL_guardN; (· simp (disch := first | omega | (simp only [go_sem]; omega)) only [go_sem, get_miss, seval, reduceCtorEq, Nat.mul_one, hs] <;> with_reducible rfl); all_goals (intro h; first | (exfalso; omega) | (simp only [h, decide_true, decide_false, not_true, not_false_iff])))
        | (apply aL_guardP; (· simp (disch := first | omega | (simp only [go_sem]; omega)) only [go_sem, get_miss, seval, reduceCtorEq, Nat.mul_one, hs] <;> with_reducible rfl); all_goals (intro h; first | (exfalso; omega) | (simp only [h, decide_true, decide_false, not_true, not_false_iff])))
        | (refine aC_condT ?_ ?_; (· simp (disch := first | omega | (simp only [go_sem]; omega)) only [go_sem, get_miss, seval, reduceCtorEq, Nat.mul_one, hs]))
        | (refine aC_condF ?_ ?_; (· simp (disch := first | omega | (simp only [go_sem]; omega)) only [go_sem, get_miss, seval, reduceCtorEq, Nat.mul_one, hs]))
        | (refine aC_condP (by simp (disch := first | omega | (simp only [go_sem]; omega)) only [go_sem, get_miss, seval, reduceCtorEq, Nat.mul_one, hs] <;> with_reducible rfl) ?_ ?_ <;> (intro h; first | (exfalso; omega) | skip))
        | (apply aL_pure cxG (hw); (case hg => (simp (disch := first | omega | (simp only [go_sem]; omega)) only [go_sem, get_miss, seval, reduceCtorEq, Nat.mul_one, hs])); (case hx => (simp (disch := first | omega | (simp only [go_sem]; omega)) only [go_sem, get_miss, seval, reduceCtorEq, Nat.mul_one, hs] <;> with_reducible rfl)); (case ha => (simp (disch := first | omega | (simp only [go_sem]; omega)) only [go_sem, get_miss, seval, reduceCtorEq, Nat.mul_one, hs] <;> with_reducible rfl)); (case he => (simp only [go_sem] <;> with_reducible rfl)); (case hcl => (simp)); (case hf => (simp only [go_sem] <;> with_reducible rfl)))
        | fail)
      all_goals try (first | exact True.intro | exact not_false | omega)
      all_goals try (simp (disch := first | omega | (simp only [go_sem]; omega)) only [go_sem, get_miss, seval, reduceCtorEq] <;> first | exact True.intro | omega)
      all_goals (clear hw)
      all_goals exact ⟨k + 1, by omega, Sub.of_all (by simp [Fr.get]), by simp [hs], by omega⟩
    · have hk' : k = 6 := by omega
      subst hk'
      clear hwk
      by_cases hM : MayC (W : Int) (wds l 6)
      case' pos => rw [hyes hM]; rw [decide_eq_true hM] at hm
      case' neg => rw [hno hM]; rw [decide_eq_false hM] at hm
      all_goals
      clear hyes hno hM
      generalize wds l 6 = D at *
      repeat' (first
        | refine aC_seq ?_
        | refine aC_reg rfl ?_
        | refine aC_block ?_
        | refine aC_skip ?_
        | refine aC_loop ?_
        | refine aC_scope ?_
        | refine scopeQ_normal ?_
        | refine scopeQ_exit ?_
        | refine scopeQ_ret ?_
        | refine aC_exit ?_
        | refine aC_ret ?_
        | refine thenQ_normal ?_
        | refine blockQ_normal ?_
        | refine thenQ_ret ?_
        | refine blockQ_ret ?_
        | refine thenQ_exit ?_
        | refine blockQ_hit ?_
        | refine blockQ_miss rfl ?_
        | refine aL_nil ?_
        | (apply aL_step; (· exact True.intro); (· simp (disch := first | omega | (simp only [go_sem]; omega)) only [go_sem, get_miss, seval, reduceCtorEq]); (· simp (disch := first | omega | (simp only [go_sem]; omega)) only [go_sem, get_miss, seval, reduceCtorEq] <;> with_reducible rfl); (· simp only [go_sem] <;> with_reducible rfl))
        | (refine aL_skip ?_ (by simp only [go_sem] <;> with_reducible rfl) ?_; (· simp (disch := first | omega | (simp only [go_sem]; omega)) only [go_sem, get_miss, seval, reduceCtorEq]))
        | (apply aL_guardN; (· simp (disch := first | omega | (simp only [go_sem]; omega)) only [go_sem, get_miss, seval, reduceCtorEq] <;> with_reducible rfl); all_goals (intro h; first | (exfalso; omega) | (simp only [h, decide_true, decide_false, not_true, not_false_iff])))
        | (apply aL_guardP; (· simp (disch := first | omega | (simp only [go_sem]; omega)) only [go_sem, get_miss, seval, reduceCtorEq] <;> with_reducible rfl); all_goals (intro h; first | (exfalso; omega) | (simp only [h, decide_true, decide_false, not_true, not_false_iff])))
        | (refine aC_condT ?_ ?_; (· simp (disch := first | omega | (simp only [go_sem]; omega)) only [go_sem, get_miss, seval, reduceCtorEq]))
        | (refine aC_condF ?_ ?_; (· simp (disch := first | omega | (simp only [go_sem]; omega)) only [go_sem, get_miss, seval, reduceCtorEq]))
        | (refine aC_condP (by simp (disch := first | omega | (simp only [go_sem]; omega)) only [go_sem, get_miss, seval, reduceCtorEq] <;> with_reducible rfl) ?_ ?_ <;> (intro h; first | (exfalso; omega) | skip))
        | (apply aL_pure cxG (hm); (case hg => (simp (disch := first | omega | (simp only [go_sem]; omega)) only [go_sem, get_miss, seval, reduceCtorEq])); (case hx => (simp (disch := first | omega | (simp only [go_sem]; omega)) only [go_sem, get_miss, seval, reduceCtorEq] <;> with_reducible rfl)); (case ha => (simp (disch := first | omega | (simp only [go_sem]; omega)) only [go_sem, get_miss, seval, reduceCtorEq] <;> with_reducible rfl)); (case he => (simp only [go_sem] <;> with_reducible rfl)); (case hcl => (simp)); (case hf => (simp only [go_sem] <;> with_reducible rfl)))
        | fail)
      all_goals try (first | exact True.intro | exact not_false | omega)
      all_goals try (simp (disch := first | omega | (simp only [go_sem]; omega)) only [go_sem, get_miss, seval, reduceCtorEq] <;> first | exact True.intro | omega)
      all_goals (clear hm)
      all_goals try (simp (disch := first | omega | (simp only [go_sem]; omega)) only [go_sem, get_miss, seval, reduceCtorEq])
      all_goals try simp
      all_goals omega
  all_goals first | trivial | omega | exact fun _ _ h => h.elim | simp

theorem ref_Of (nl : Bool) (l : List UInt8) (hl : l.length ≤ 1048576) : APure cx 28 [.sl 1 nl (bl l) .any]
    (if OfOk l then .tup [.agg (.int .i64 (wdB l 0 : Nat) :: wl (wds l 6)), .bool true] else .tup [.agg (.int .i64 0 :: wl [0, 0, 0, 0, 0, 0]), .bool false]) := by
  rw [← zero_wl]
  by_cases h56 : l.length = 56
  case neg =>
    rw [if_neg (fun h : OfOk l => h56 h.1)]
    have h56' : ¬ ((l.length : Int) = 56) := by omega
    refine pure_fn cxOk Tryd.func28 (by kernel_rfl) (fun _ => false) (fun _ => none) (by kernel_rfl) (Nat.le_of_ble_eq_true (by kernel_rfl)) ?_
    dsimp only [LB, Tryd.f28, lite, nextOf, Option.isNone, Bool.not_true, Bool.not_false, Bool.and_true, Bool.true_and, Bool.false_and, Bool.and_self, Bool.false_eq_true, if_false, if_true, ↓reduceIte, liteO, List.map, Option.map, frame0, List.zipIdx, Nat.reduceAdd]
    try simp only [List.getElem?_toArray, List.getElem?_cons_succ, List.getElem?_cons_zero, Option.bind_some]
    repeat' (first
      | refine aC_seq ?_
      | refine aC_reg rfl ?_
      | refine aC_block ?_
      | refine aC_skip ?_
      | refine aC_loop ?_
      | refine aC_scope ?_
      | refine scopeQ_normal ?_
      | refine scopeQ_exit ?_
      | refine scopeQ_ret ?_
      | refine aC_exit ?_
      | refine aC_ret ?_
      | refine thenQ_normal ?_
      | refine blockQ_normal ?_
      | refine thenQ_ret ?_
      | refine blockQ_ret ?_
      | refine thenQ_exit ?_
      | refine blockQ_hit ?_
      | refine blockQ_miss rfl ?_
      | refine aL_nil ?_
      | (apply aL_step; (· exact True.intro); (· simp (disch := first | omega | (simp only [go_sem]; omega)) only [go_sem, get_miss, seval, reduceCtorEq, h56', decide_true, decide_false, not_false_eq_true, not_true_eq_false]); (· simp (disch := first | omega | (simp only [go_sem]; omega)) only [go_sem, get_miss, seval, reduceCtorEq, h56', decide_true, decide_false, not_false_eq_true, not_true_eq_false] <;> with_reducible rfl); (· simp only [go_sem] <;> with_reducible rfl))
      | (refine aL_skip ?_ (by simp only [go_sem] <;> with_reducible rfl) ?_; (· simp (disch := first | omega | (simp only [go_sem]; omega)) only [go_sem, get_miss, seval, reduceCtorEq, h56', decide_true, decide_false, not_false_eq_true, not_true_eq_false]))
      | (apply aL_guardN; (· simp (disch := first | omega | (simp only [go_sem]; omega)) only [go_sem, get_miss, seval, reduceCtorEq, h56', decide_true, decide_false, not_false_eq_true, not_true_eq_false] <;> with_reducible rfl); all_goals (intro h; first | (exfalso; omega) | (simp only [h, decide_true, decide_false, not_true, not_false_iff])))
      | (apply aL_guardP; (· simp (disch := first | omega | (simp only [go_sem]; omega)) only [go_sem, get_miss, seval, reduceCtorEq, h56', decide_true, decide_false, not_false_eq_true, not_true_eq_false] <;> with_reducible rfl); all_goals (intro h; first | (exfalso; omega) | (simp only [h, decide_true, decide_false, not_true, not_false_iff])))
      | (refine aC_condT ?_ ?_; (· simp (disch := first | omega | (simp only [go_sem]; omega)) only [go_sem, get_miss, seval, reduceCtorEq, h56', decide_true, decide_false, not_false_eq_true, not_true_eq_false]))
      | (refine aC_condF ?_ ?_; (· simp (disch := first | omega | (simp only [go_sem]; omega)) only [go_sem, get_miss, seval, reduceCtorEq, h56', decide_true, decide_false, not_false_eq_true, not_true_eq_false]))
      | (refine aC_condP (by simp (disch := first | omega | (simp only [go_sem]; omega)) only [go_sem, get_miss, seval, reduceCtorEq, h56', decide_true, decide_false, not_false_eq_true, not_true_eq_false] <;> with_reducible rfl) ?_ ?_ <;> (intro h; first | (exfalso; omega) | skip))
      | fail)
    all_goals try (first | exact True.intro | exact not_false | omega)
    all_goals try (simp (disch := first | omega | (simp only [go_sem]; omega)) only [go_sem, get_miss, seval, reduceCtorEq] <;> first | exact True.intro | omega)
    all_goals try (simp (disch := first | omega | (simp only [go_sem]; omega)) only [go_sem, get_miss, seval, reduceCtorEq])
    all_goals try simp
  case pos =>
  have h56' : (l.length : Int) = 56 := by omega
  have hw0 : APure cx 48 [.sl 1 nl (bl (l.take 8)) .any] (.int .u64 (wdB l 0)) := ref_get nl (l.take 8) (by simp; omega)
  have hlt0 := wdB_lt l 0
  have hwk : ∀ k : Nat, k < 6 → APure cx 48 [.sl 1 nl (bl ((l.take (16 + 8 * k)).drop (8 + 8 * k))) .any] (.int .u64 (wdB l (k + 1))) := fun k hk => by
    have := ref_get nl ((l.take (16 + 8 * k)).drop (8 + 8 * k)) (by simp; omega)
    unfold wdB
    rw [show 8 * (k + 1) + 8 = 16 + 8 * k by omega, show 8 * (k + 1) = 8 + 8 * k by omega]
    exact this
  have hok : OfOk l ↔ MayC (wdB l 0) (wds l 6) := ⟨fun h => h.2, fun h => ⟨h56, h⟩⟩
  by_cases h21 : 1 ≤ wdB l 0 ∧ wdB l 0 ≤ 21
  case neg =>
    rw [if_neg (fun h : OfOk l => h21 (by have := (hok.1 h).1; omega))]
    clear hok hwk
    generalize wdB l 0 = W at *
    have h21' : W < 1 ∨ (1 ≤ W ∧ 21 < W) := by omega
    rcases h21' with h21' | ⟨h21a, h21b⟩
    all_goals
    refine pure_fn cxOk Tryd.func28 (by kernel_rfl) (fun _ => false) (fun _ => none) (by kernel_rfl) (Nat.le_of_ble_eq_true (by kernel_rfl)) ?_
    dsimp only [LB, Tryd.f28, lite, nextOf, Option.isNone, Bool.not_true, Bool.not_false, Bool.and_true, Bool.true_and, Bool.false_and, Bool.and_self, Bool.false_eq_true, if_false, if_true, ↓reduceIte, liteO, List.map, Option.map, frame0, List.zipIdx, Nat.reduceAdd]
    try simp only [List.getElem?_toArray, List.getElem?_cons_succ, List.getElem?_cons_zero, Option.bind_some]
    repeat' (first
      | refine aC_seq ?_
      | refine aC_reg rfl ?_
      | refine aC_block ?_
      | refine aC_skip ?_
      | refine aC_loop ?_
      | refine aC_scope ?_
      | refine scopeQ_normal ?_
      | refine scopeQ_exit ?_
      | refine scopeQ_ret ?_
      | refine aC_exit ?_
      | refine aC_ret ?_
      | refine thenQ_normal ?_
      | refine blockQ_normal ?_
      | refine thenQ_ret ?_
      | refine blockQ_ret ?_
      | refine thenQ_exit ?_
      | refine blockQ_hit ?_
      | refine blockQ_miss rfl ?_
      | refine aL_nil ?_
      | (apply aL_step; (· exact True.intro); (· simp (disch := first | omega | (simp only [go_sem]; omega)) only [go_sem, get_miss, seval, reduceCtorEq, h56', decide_true, decide_false, not_false_eq_true, not_true_eq_false]); (· simp (disch := first | omega | (simp only [go_sem]; omega)) only [go_sem, get_miss, seval, reduceCtorEq, h56', decide_true, decide_false, not_false_eq_true, not_true_eq_false] <;> with_reducible rfl); (· simp only [go_sem] <;> with_reducible rfl))
      | (refine aL_skip ?_ (by simp only [go_sem] <;> with_reducible rfl) ?_; (· simp (disch := first | omega | (simp only [go_sem]; omega)) only [go_sem, get_miss, seval, reduceCtorEq, h56', decide_true, decide_false, not_false_eq_true, not_true_eq_false]))
      | (apply aL_guardN; (· simp (disch := first | omega | (simp only [go_sem]; omega)) only [go_sem, get_miss, seval, reduceCtorEq, h56', decide_true, decide_false, not_false_eq_true, not_true_eq_false] <;> with_reducible rfl); all_goals (intro h; first | (exfalso; omega) | (simp only [h, decide_true, decide_false, not_true, not_false_iff])))
      | (apply aL_guardP; (· simp (disch := first | omega | (simp only [go_sem]; omega)) only [go_sem, get_miss, seval, reduceCtorEq, h56', decide_true, decide_false, not_false_eq_true, not_true_eq_false] <;> with_reducible rfl); all_goals (intro h; first | (exfalso; omega) | (simp only [h, decide_true, decide_false, not_true, not_false_iff])))
      | (refine aC_condT ?_ ?_; (· simp (disch := first | omega | (simp only [go_sem]; omega)) only [go_sem, get_miss, seval, reduceCtorEq, h56', decide_true, decide_false, not_false_eq_true, not_true_eq_false]))
      | (refine aC_condF ?_ ?_; (· simp (disch := first | omega | (simp only [go_sem]; omega)) only [go_sem, get_miss, seval, reduceCtorEq, h56', decide_true, decide_false, not_false_eq_true, not_true_eq_false]))
      | (refine aC_condP (by simp (disch := first | omega | (simp only [go_sem]; omega)) only [go_sem, get_miss, seval, reduceCtorEq, h56', decide_true, decide_false, not_false_eq_true, not_true_eq_false] <;> with_reducible rfl) ?_ ?_ <;> (intro h; first | (exfalso; omega) | skip))
      | (apply aL_pure cxG (hw0); (case hg => (simp (disch := first | omega | (simp only [go_sem]; omega)) only [go_sem, get_miss, seval, reduceCtorEq, h56', decide_true, decide_false, not_false_eq_true, not_true_eq_false])); (case hx => (simp (disch := first | omega | (simp only [go_sem]; omega)) only [go_sem, get_miss, seval, reduceCtorEq, h56', decide_true, decide_false, not_false_eq_true, not_true_eq_false] <;> with_reducible rfl)); (case ha => (simp (disch := first | omega | (simp only [go_sem]; omega)) only [go_sem, get_miss, seval, reduceCtorEq, h56', decide_true, decide_false, not_false_eq_true, not_true_eq_false] <;> with_reducible rfl)); (case he => (simp only [go_sem] <;> with_reducible rfl)); (case hcl => (simp)); (case hf => (simp only [go_sem] <;> with_reducible rfl)))
      | fail)
    all_goals try (first | exact True.intro | exact not_false | omega)
    all_goals try (simp (disch := first | omega | (simp only [go_sem]; omega)) only [go_sem, get_miss, seval, reduceCtorEq] <;> first | exact True.intro | omega)
    all_goals (clear hw0)
    all_goals try (simp (disch := first | omega | (simp only [go_sem]; omega)) only [go_sem, get_miss, seval, reduceCtorEq])
    all_goals try simp
  case pos =>
  obtain ⟨h1, h21⟩ := h21
  have hm := ref_May (wdB l 0) (wds l 6) (wds_len l 6 (by decide))
  generalize hr : (if OfOk l then AVal.tup [.agg (.int .i64 (wdB l 0 : Nat) :: wl (wds l 6)), .bool true] else AVal.tup [.agg [.int .i64 0, .int .u64 0, .int .u64 0, .int .u64 0, .int .u64 0, .int .u64 0, .int .u64 0], .bool false]) = r
  have hyes : MayC (wdB l 0) (wds l 6) → r = AVal.tup [.agg (.int .i64 (wdB l 0 : Nat) :: wl (wds l 6)), .bool true] := fun h => by rw [← hr, if_pos (hok.2 h)]
  have hno : ¬ MayC (wdB l 0) (wds l 6) → r = AVal.tup [.agg [.int .i64 0, .int .u64 0, .int .u64 0, .int .u64 0, .int .u64 0, .int .u64 0, .int .u64 0], .bool false] := fun h => by rw [← hr, if_neg (fun k => h (hok.1 k))]
  clear hr hok
  have hlen := wds_len l
  generalize wdB l 0 = W at *
  refine pure_fn cxOk Tryd.func28 (by kernel_rfl) (fun _ => false) (fun _ => none) (by kernel_rfl) (Nat.le_of_ble_eq_true (by kernel_rfl)) ?_
  dsimp only [LB, Tryd.f28, lite, nextOf, Option.isNone, Bool.not_true, Bool.not_false, Bool.and_true, Bool.true_and, Bool.false_and, Bool.and_self, Bool.false_eq_true, if_false, if_true, ↓reduceIte, liteO, List.map, Option.map, frame0, List.zipIdx, Nat.reduceAdd]
  try simp only [List.getElem?_toArray, List.getElem?_cons_succ, List.getElem?_cons_zero, Option.bind_some]
  repeat' (first
    | refine aC_seq ?_
    | refine aC_reg rfl ?_
    | refine aC_block ?_
    | refine aC_skip ?_
    | refine aC_loop ?_
    | refine aC_scope ?_
    | refine scopeQ_normal ?_
    | refine scopeQ_exit ?_
    | refine scopeQ_ret ?_
    | refine aC_exit ?_
    | refine aC_ret ?_
    | refine thenQ_normal ?_
    | refine blockQ_normal ?_
    | refine thenQ_ret ?_
    | refine blockQ_ret ?_
    | refine thenQ_exit ?_
    | refine blockQ_hit ?_
    | refine blockQ_miss rfl ?_
    | refine aL_nil ?_
    | (apply aL_step; (· exact True.intro); (· simp (disch := first | omega | (simp only [go_sem]; omega)) only [go_sem, get_miss, seval, reduceCtorEq, h56', decide_true, decide_false, not_false_eq_true, not_true_eq_false]); (· simp (disch := first | omega | (simp only [go_sem]; omega)) only [go_sem, get_miss, seval, reduceCtorEq, h56', decide_true, decide_false, not_false_eq_true, not_true_eq_false] <;> with_reducible rfl); (· simp only [go_sem] <;> with_reducible rfl))
    | (refine aL_skip ?_ (by simp only [go_sem] <;> with_reducible rfl) ?_; (· simp (disch := first | omega | (simp only [go_sem]; omega)) only [go_sem, get_miss, seval, reduceCtorEq, h56', decide_true, decide_false, not_false_eq_true, not_true_eq_false]))
    | (apply aL_guardN; (· simp (disch := first | omega | (simp only [go_sem]; omega)) only [go_sem, get_miss, seval, reduceCtorEq, h56', decide_true, decide_false, not_false_eq_true, not_true_eq_false] <;> with_reducible rfl); all_goals (intro h; first | (exfalso; omega) | (simp only [h, decide_true, decide_false, not_true, not_false_iff])))
    | (apply aL_guardP; (· simp (disch := first | omega | (simp only [go_sem]; omega)) only [go_sem, get_miss, seval, reduceCtorEq, h56', decide_true, decide_false, not_false_eq_true, not_true_eq_false] <;> with_reducible rfl); all_goals (intro h; first | (exfalso; omega) | (simp only [h, decide_true, decide_false, not_true, not_false_iff])))
    | (refine aC_condT ?_ ?_; (· simp (disch := first | omega | (simp only [go_sem]; omega)) only [go_sem, get_miss, seval, reduceCtorEq, h56', decide_true, decide_false, not_false_eq_true, not_true_eq_false]))
    | (refine aC_condF ?_ ?_; (· simp (disch := first | omega | (simp only [go_sem]; omega)) only [go_sem, get_miss, seval, reduceCtorEq, h56', decide_true, decide_false, not_false_eq_true, not_true_eq_false]))
    | (refine aC_condP (by simp (disch := first | omega | (simp only [go_sem]; omega)) only [go_sem, get_miss, seval, reduceCtorEq, h56', decide_true, decide_false, not_false_eq_true, not_true_eq_false] <;> with_reducible rfl) ?_ ?_ <;> (intro h; first | (exfalso; omega) | skip))
    | (apply aL_pure cxG (hw0); (case hg => (simp (disch := first | omega | (simp only [go_sem]; omega)) only [go_sem, get_miss, seval, reduceCtorEq, h56', decide_true, decide_false, not_false_eq_true, not_true_eq_false])); (case hx => (simp (disch := first | omega | (simp only [go_sem]; omega)) only [go_sem, get_miss, seval, reduceCtorEq, h56', decide_true, decide_false, not_false_eq_true, not_true_eq_false] <;> with_reducible rfl)); (case ha => (simp (disch := first | omega | (simp only [go_sem]; omega)) only [go_sem, get_miss, seval, reduceCtorEq, h56', decide_true, decide_false, not_false_eq_true, not_true_eq_false] <;> with_reducible rfl)); (case he => (simp only [go_sem] <;> with_reducible rfl)); (case hcl => (simp)); (case hf => (simp only [go_sem] <;> with_reducible rfl)))
    | fail)
  · clear hw0
    refine loop_rule (cxOk.wp _ _) (σ := Nat) (fun k => [(6, .int .i64 k), (5, .ptr 1 0), (2, .ptr 0 0), (0, .sl 1 nl (bl l) .any)])
      (fun k => [.cells [.int .i64 0, .int .u64 0, .int .u64 0, .int .u64 0, .int .u64 0, .int .u64 0, .int .u64 0] 32, .cells (.int .i64 (W : Int) :: wl (wds l k)) 32]) (fun k => 6 - k) (fun k => k ≤ 6) 0 (GStep.refl _ _) ⟨Nat.zero_le _, Sub.of_all (by simp [Fr.get, frame0]), by simp [wds, wl]⟩ ?_
    intro k hk
    have hlk := hlen k hk
    by_cases hlt : k < 6
    · have hw := hwk k hlt
      have hs := wds_succ l k hlt
      have e1 : (8 + 8 * (k : Int)).toNat = 8 + 8 * k := by omega
      have e2 : (16 + 8 * (k : Int)).toNat = 16 + 8 * k := by omega
      clear hyes hno hwk hm
      generalize wdB l (k + 1) = V at *
      generalize wds l k = D at *
      repeat' (first
        | refine aC_seq ?_
        | refine aC_reg rfl ?_
        | refine aC_block ?_
        | refine aC_skip ?_
        | refine aC_loop ?_
        | refine aC_scope ?_
        | refine scopeQ_normal ?_
        | refine scopeQ_exit ?_
        | refine scopeQ_ret ?_
        | refine aC_exit ?_
        | refine aC_ret ?_
        | refine thenQ_normal ?_
        | refine blockQ_normal ?_
        | refine thenQ_ret ?_
        | refine blockQ_ret ?_
        | refine thenQ_exit ?_
        | refine blockQ_hit ?_
        | refine blockQ_miss rfl ?_
        | refine aL_nil ?_
        | (apply aL_step; (· exact True.intro); (· simp (disch := first | omega | (simp only [go_sem]; omega)) only [go_sem, get_miss, seval, reduceCtorEq, Nat.mul_one, hs, e1, e2]); (· simp (disch := first | omega | (simp only [go_sem]; omega)) only [go_sem, get_miss, seval, reduceCtorEq, Nat.mul_one, hs, e1, e2] <;> with_reducible rfl); (· simp only [go_sem] <;> with_reducible rfl))
        | (refine aL_skip ?_ (by simp only [go_sem] <;> with_reducible rfl) ?_; (· simp (disch := first | omega | (simp only [go_sem]; omega)) only [go_sem, get_miss, seval, reduceCtorEq, Nat.mul_one, hs, e1, e2]))
        | (apply aL_guardN; (· simp (disch := first | omega | (simp only [go_sem]; omega)) only [go_sem, get_miss, seval, reduceCtorEq, Nat.mul_one, hs, e1, e2] <;> with_reducible rfl); all_goals (intro h; first | (exfalso; omega) | (simp only [h, decide_true, decide_false, not_true, not_false_iff])))
        | (apply aL_guardP; (· simp (disch := first | omega | (simp only [go_sem]; omega)) only [go_sem, get_miss, seval, reduceCtorEq, Nat.mul_one, hs, e1, e2] <;> with_reducible rfl); all_goals (intro h; first | (exfalso; omega) | (simp only [h, decide_true, decide_false, not_true, not_false_iff])))
        | (refine aC_condT ?_ ?_; (· simp (disch := first | omega | (simp only [go_sem]; omega)) only [go_sem, get_miss, seval, reduceCtorEq, Nat.mul_one, hs, e1, e2]))
        | (refine aC_condF ?_ ?_; (· simp (disch := first | omega | (simp only [go_sem]; omega)) only [go_sem, get_miss, seval, reduceCtorEq, Nat.mul_one, hs, e1, e2]))
        | (refine aC_condP (by simp (disch := first | omega | (simp only [go_sem]; omega)) only [go_sem, get_miss, seval, reduceCtorEq, Nat.mul_one, hs, e1, e2] <;> with_reducible rfl) ?_ ?_ <;> (intro h; first | (exfalso; omega) | skip))
        | (apply aL_pure cxG (hw); (case hg => (simp (disch := first | omega | (simp only [go_sem]; omega)) only [go_sem, get_miss, seval, reduceCtorEq, Nat.mul_one, hs, e1, e2])); (case hx => (simp (disch := first | omega | (simp only [go_sem]; omega)) only [go_sem, get_miss, seval, reduceCtorEq, Nat.mul_one, hs, e1, e2] <;> with_reducible rfl)); (case ha => (simp (disch := first | omega | (simp only [go_sem]; omega)) only [go_sem, get_miss, seval, reduceCtorEq, Nat.mul_one, hs, e1, e2] <;> with_reducible rfl)); (case he => (simp only [go_sem] <;> with_reducible rfl)); (case hcl => (simp)); (case hf => (simp only [go_sem] <;> with_reducible rfl)))
        | fail)
      all_goals try (first | exact True.intro | exact not_false | omega)
      all_goals try (simp (disch := first | omega | (simp only [go_sem]; omega)) only [go_sem, get_miss, seval, reduceCtorEq] <;> first | exact True.intro | omega)
      all_goals (clear hw)
      all_goals exact ⟨k + 1, by omega, Sub.of_all (by simp [Fr.get]), by simp [hs], by omega⟩
    · have hk' : k = 6 := by omega
      subst hk'
      clear hwk
      by_cases hM : MayC (W : Int) (wds l 6)
      case' pos => rw [hyes hM]; rw [decide_eq_true hM] at hm
      case' neg => rw [hno hM]; rw [decide_eq_false hM] at hm
      all_goals
      clear hyes hno hM
      generalize wds l 6 = D at *
      repeat' (first
        | refine aC_seq ?_
        | refine aC_reg rfl ?_
        | refine aC_block ?_
        | refine aC_skip ?_
        | refine aC_loop ?_
        | refine aC_scope ?_
        | refine scopeQ_normal ?_
        | refine scopeQ_exit ?_
        | refine scopeQ_ret ?_
        | refine aC_exit ?_
        | refine aC_ret ?_
        | refine thenQ_normal ?_
        | refine blockQ_normal ?_
        | refine thenQ_ret ?_
        | refine blockQ_ret ?_
        | refine thenQ_exit ?_
        | refine blockQ_hit ?_
        | refine blockQ_miss rfl ?_
        | refine aL_nil ?_
        | (apply aL_step; (· exact True.intro); (· simp (disch := first | omega | (simp only [go_sem]; omega)) only [go_sem, get_miss, seval, reduceCtorEq]); (· simp (disch := first | omega | (simp only [go_sem]; omega)) only [go_sem, get_miss, seval, reduceCtorEq] <;> with_reducible rfl); (· simp only [go_sem] <;> with_reducible rfl))
        | (refine aL_skip ?_ (by simp only [go_sem] <;> with_reducible rfl) ?_; (· simp (disch := first | omega | (simp only [go_sem]; omega)) only [go_sem, get_miss, seval, reduceCtorEq]))
        | (apply aL_guardN; (· simp (disch := first | omega | (simp only [go_sem]; omega)) only [go_sem, get_miss, seval, reduceCtorEq] <;> with_reducible rfl); all_goals (intro h; first | (exfalso; omega) | (simp only [h, decide_true, decide_false, not_true, not_false_iff])))
        | (apply aL_guardP; (· simp (disch := first | omega | (simp only [go_sem]; omega)) only [go_sem, get_miss, seval, reduceCtorEq] <;> with_reducible rfl); all_goals (intro h; first | (exfalso; omega) | (simp only [h, decide_true, decide_false, not_true, not_false_iff])))
        | (refine aC_condT ?_ ?_; (· simp (disch := first | omega | (simp only [go_sem]; omega)) only [go_sem, get_miss, seval, reduceCtorEq]))
        | (refine aC_condF ?_ ?_; (· simp (disch := first | omega | (simp only [go_sem]; omega)) only [go_sem, get_miss, seval, reduceCtorEq]))
        | (refine aC_condP (by simp (disch := first | omega | (simp only [go_sem]; omega)) only [go_sem, get_miss, seval, reduceCtorEq] <;> with_reducible rfl) ?_ ?_ <;> (intro h; first | (exfalso; omega) | skip))
        | (apply aL_pure cxG (hm); (case hg => (simp (disch := first | omega | (simp only [go_sem]; omega)) only [go_sem, get_miss, seval, reduceCtorEq])); (case hx => (simp (disch := first | omega | (simp only [go_sem]; omega)) only [go_sem, get_miss, seval, reduceCtorEq] <;> with_reducible rfl)); (case ha => (simp (disch := first | omega | (simp only [go_sem]; omega)) only [go_sem, get_miss, seval, reduceCtorEq] <;> with_reducible rfl)); (case he => (simp only [go_sem] <;> with_reducible rfl)); (case hcl => (simp)); (case hf => (simp only [go_sem] <;> with_reducible rfl)))
        | fail)
      all_goals try (first | exact True.intro | exact not_false | omega)
      all_goals try (simp (disch := first | omega | (simp only [go_sem]; omega)) only [go_sem, get_miss, seval, reduceCtorEq] <;> first | exact True.intro | omega)
      all_goals (clear hm)
      all_goals try (simp (disch := first | omega | (simp only [go_sem]; omega)) only [go_sem, get_miss, seval, reduceCtorEq])
      all_goals try simp
      all_goals omega
  all_goals first | trivial | omega | exact fun _ _ h => h.elim | simp
end
end Go.Am
