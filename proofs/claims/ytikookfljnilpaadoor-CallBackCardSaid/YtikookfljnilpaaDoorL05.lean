/- A call's bytes: Bytes, Of; the document's. -/
import Derived.Test.YtikookfljnilpaaDoorL04
set_option linter.unusedVariables false
set_option linter.unusedSimpArgs false
namespace Go.Am
open Go Go.Proofs
set_option linter.unusedSimpArgs false
set_option linter.unusedVariables false
set_option maxHeartbeats 4000000
set_option maxRecDepth 100000
section
attribute [local irreducible] aC aL thenQ blockQ scopeQ ALoop AWp

/-- A call's bytes. -/
def cbyX (op : Nat) (xs : List Nat) : List UInt8 := putl op 8 ++ xs.flatMap fun x => putl x 8
theorem cbyX_take (op : Nat) (xs : List Nat) (k : Nat) (h : k < xs.length) : cbyX op (xs.take (k + 1)) = cbyX op (xs.take k) ++ putl (xs.getD k 0) 8 := by
  rw [List.take_succ_eq_append_getElem h]
  unfold cbyX
  rw [List.flatMap_append, ← List.append_assoc]
  simp [List.getD, h]
theorem cbyX_len (op : Nat) : ∀ xs : List Nat, (cbyX op xs).length = 8 + 8 * xs.length
  | [] => by simp [cbyX]
  | x :: xs => by
    have ih := cbyX_len op xs
    unfold cbyX at ih ⊢
    simp only [List.flatMap_cons, List.length_append, putl_length, List.length_cons] at ih ⊢
    omega

theorem call_Bytes (op : Int) (xs : List Nat) (hx : xs.length = 6) (hw : ∀ x ∈ xs, x < 18446744073709551616) :
    APure cx 20 [.agg (.int .i64 op :: wl xs)] (if MayC op xs then .tup [.sl 1 false (bl (cbyX op.toNat xs)) .any, .int .i64 0] else .tup [.sl 1 true [] .any, .int .i64 2]) := by
  have hm := call_May op xs hx
  by_cases h : MayC op xs
  case neg =>
    rw [if_neg h]
    rw [decide_eq_false h] at hm
    clear h
    refine pure_fn cxOk Tryd.func20 (by kernel_rfl) (fun _ => false) (fun _ => none) (by kernel_rfl) (Nat.le_of_ble_eq_true (by kernel_rfl)) ?_
    dsimp only [LB, Tryd.f20, lite, nextOf, Option.isNone, Bool.not_true, Bool.not_false, Bool.and_true, Bool.true_and, Bool.false_and, Bool.and_self, Bool.false_eq_true, if_false, if_true, ↓reduceIte, liteO, List.map, Option.map, frame0, List.zipIdx, Nat.reduceAdd]
    try simp only [List.getElem?_toArray, List.getElem?_cons_succ, List.getElem?_cons_zero, Option.bind_some]
    repeat' (first
      | refine aC_seq ?_
      | refine aC_reg rfl ?_
      | refine aC_ret ?_
      | refine thenQ_normal ?_
      | refine thenQ_ret ?_
      | refine aL_nil ?_
      | (apply aL_step; (· exact True.intro); (· simp (disch := first | omega | (simp only [go_sem]; omega)) only [go_sem, get_miss, seval, reduceCtorEq]); (· simp (disch := first | omega | (simp only [go_sem]; omega)) only [go_sem, get_miss, seval, reduceCtorEq] <;> with_reducible rfl); (· simp only [go_sem] <;> with_reducible rfl))
      | (refine aC_condT ?_ ?_; (· simp (disch := first | omega | (simp only [go_sem]; omega)) only [go_sem, get_miss, seval, reduceCtorEq]))
      | (apply aL_pure cxG (hm); (case hg => (simp (disch := first | omega | (simp only [go_sem]; omega)) only [go_sem, get_miss, seval, reduceCtorEq])); (case hx => (simp (disch := first | omega | (simp only [go_sem]; omega)) only [go_sem, get_miss, seval, reduceCtorEq] <;> with_reducible rfl)); (case ha => (simp (disch := first | omega | (simp only [go_sem]; omega)) only [go_sem, get_miss, seval, reduceCtorEq] <;> with_reducible rfl)); (case he => (simp only [go_sem] <;> with_reducible rfl)); (case hcl => (simp)); (case hf => (simp only [go_sem] <;> with_reducible rfl)))
      | fail)
    all_goals try (first | exact True.intro | exact not_false | omega)
    all_goals try (simp (disch := first | omega | (simp only [go_sem]; omega)) only [go_sem, get_miss, seval, reduceCtorEq] <;> first | exact True.intro | omega)
    all_goals (clear hm)
    all_goals try (simp (disch := first | omega | (simp only [go_sem]; omega)) only [go_sem, get_miss, seval, reduceCtorEq])
    all_goals try simp
  case pos =>
  rw [if_pos h]
  rw [decide_eq_true h] at hm
  obtain ⟨⟨h1, h2⟩, _⟩ := h
  obtain ⟨o, rfl⟩ := Int.eq_ofNat_of_zero_le (show 0 ≤ op by omega)
  rw [Int.toNat_natCast]
  have ho : o < 256 ^ 8 := by
    have e8 : (256 : Nat) ^ 8 = 18446744073709551616 := by decide
    omega
  have hp := wire_putA (.cells (.int .i64 (o : Int) :: wl xs) 32) o 8 (by decide) (by decide) ho
  have hpl := fun n h => wire_put n 8 (by decide) (by decide) h
  rw [show ((8 : Nat) : Int) = 8 from rfl] at hp
  refine pure_fn cxOk Tryd.func20 (by kernel_rfl) (fun _ => false) (fun _ => none) (by kernel_rfl) (Nat.le_of_ble_eq_true (by kernel_rfl)) ?_
  dsimp only [LB, Tryd.f20, lite, nextOf, Option.isNone, Bool.not_true, Bool.not_false, Bool.and_true, Bool.true_and, Bool.false_and, Bool.and_self, Bool.false_eq_true, if_false, if_true, ↓reduceIte, liteO, List.map, Option.map, frame0, List.zipIdx, Nat.reduceAdd]
  try simp only [List.getElem?_toArray, List.getElem?_cons_succ, List.getElem?_cons_zero, Option.bind_some]
  repeat' (first
    | refine aC_seq ?_
    | refine aC_reg rfl ?_
    | refine aC_block ?_
    | refine aC_skip ?_
    | refine aC_loop ?_
    | refine thenQ_normal ?_
    | refine aL_nil ?_
    | (apply aL_step; (· exact True.intro); (· simp (disch := first | omega | (simp only [go_sem]; omega)) only [go_sem, get_miss, seval, reduceCtorEq]); (· simp (disch := first | omega | (simp only [go_sem]; omega)) only [go_sem, get_miss, seval, reduceCtorEq] <;> with_reducible rfl); (· simp only [go_sem] <;> with_reducible rfl))
    | (refine aC_condF ?_ ?_; (· simp (disch := first | omega | (simp only [go_sem]; omega)) only [go_sem, get_miss, seval, reduceCtorEq]))
    | (apply aL_pure cxG (hm); (case hg => (simp (disch := first | omega | (simp only [go_sem]; omega)) only [go_sem, get_miss, seval, reduceCtorEq])); (case hx => (simp (disch := first | omega | (simp only [go_sem]; omega)) only [go_sem, get_miss, seval, reduceCtorEq] <;> with_reducible rfl)); (case ha => (simp (disch := first | omega | (simp only [go_sem]; omega)) only [go_sem, get_miss, seval, reduceCtorEq] <;> with_reducible rfl)); (case he => (simp only [go_sem] <;> with_reducible rfl)); (case hcl => (simp)); (case hf => (simp only [go_sem] <;> with_reducible rfl)))
    | (apply aL_acall (hp); (case hg => (simp (disch := first | omega | (simp only [go_sem]; omega)) only [go_sem, get_miss, seval, reduceCtorEq])); (case hx => (simp (disch := first | omega | (simp only [go_sem]; omega)) only [go_sem, get_miss, seval, reduceCtorEq] <;> with_reducible rfl)); (case ha => (simp (disch := first | omega | (simp only [go_sem]; omega)) only [go_sem, get_miss, seval, reduceCtorEq] <;> with_reducible rfl)); (case he => (with_reducible rfl)); (case hp => (rfl)); (case hf => (simp only [go_sem] <;> with_reducible rfl)))
    | fail)
  · clear hm hp
    refine loop_rule (cxOk.wp _ _) (σ := Nat) (fun k => [(22, .int .i64 k), (21, .agg (wl xs)), (4, .sl 1 false (bl (cbyX o (xs.take k))) (.grow 1))])
      (fun k => [.cells (.int .i64 (o : Int) :: wl xs) 32, .grow (cbyX o (xs.take k)).length 1 5]) (fun k => 6 - k) (fun k => k ≤ 6) 0 (GStep.refl _ _) ⟨Nat.zero_le _, Sub.of_all (by simp [Fr.get, cbyX]), by simp [cbyX]⟩ ?_
    intro k hk
    by_cases hlt : k < 6
    · have hkx : k < xs.length := by omega
      have hp := hpl (xs.getD k 0) (by
        have e8 : (256 : Nat) ^ 8 = 18446744073709551616 := by decide
        have := hw (xs.getD k 0) (by simp [List.getD, hkx])
        omega)
      rw [show ((8 : Nat) : Int) = 8 from rfl] at hp
      have ht := cbyX_take o xs k hkx
      have hl1 := cbyX_len o (xs.take k)
      have hl2 : (xs.take k).length = k := by simp; omega
      rw [hl2] at hl1
      have hgd : (wl xs).getD k .any = .int .u64 ((xs.getD k 0 : Nat) : Int) := getD_wl xs k _ hkx
      generalize hX : cbyX o (xs.take k) = X at *
      repeat' (first
        | refine aC_seq ?_
        | refine aC_reg rfl ?_
        | refine aC_block ?_
        | refine aC_skip ?_
        | refine thenQ_normal ?_
        | refine blockQ_normal ?_
        | refine aL_nil ?_
        | (apply aL_step; (· exact True.intro); (· simp (disch := first | omega | (simp only [go_sem]; omega)) only [go_sem, get_miss, seval, reduceCtorEq, hgd, Nat.mul_one]); (· simp (disch := first | omega | (simp only [go_sem]; omega)) only [go_sem, get_miss, seval, reduceCtorEq, hgd, Nat.mul_one] <;> with_reducible rfl); (· simp only [go_sem] <;> with_reducible rfl))
        | (refine aC_condP (by simp (disch := first | omega | (simp only [go_sem]; omega)) only [go_sem, get_miss, seval, reduceCtorEq, hgd, Nat.mul_one] <;> with_reducible rfl) ?_ ?_ <;> (intro h; first | (exfalso; omega) | skip))
        | (apply aL_pure cxG (hp); (case hg => (simp (disch := first | omega | (simp only [go_sem]; omega)) only [go_sem, get_miss, seval, reduceCtorEq, hgd, Nat.mul_one])); (case hx => (simp (disch := first | omega | (simp only [go_sem]; omega)) only [go_sem, get_miss, seval, reduceCtorEq, hgd, Nat.mul_one] <;> with_reducible rfl)); (case ha => (simp (disch := first | omega | (simp only [go_sem]; omega)) only [go_sem, get_miss, seval, reduceCtorEq, hgd, Nat.mul_one] <;> with_reducible rfl)); (case he => (simp only [go_sem] <;> with_reducible rfl)); (case hcl => (simp)); (case hf => (simp only [go_sem] <;> with_reducible rfl)))
        | fail)
      all_goals try (first | exact True.intro | exact not_false | omega)
      all_goals try (simp (disch := first | omega | (simp only [go_sem]; omega)) only [go_sem, get_miss, seval, reduceCtorEq] <;> first | exact True.intro | omega)
      all_goals first | omega | exact ⟨k + 1, by omega, Sub.of_all (by simp [Fr.get, ht]), by simp [ht], by omega⟩
    · have hk' : k = 6 := by omega
      subst hk'
      rw [List.take_of_length_le (by omega)]
      repeat' (first
        | refine aC_seq ?_
        | refine aC_reg rfl ?_
        | refine aC_exit ?_
        | refine aC_ret ?_
        | refine thenQ_normal ?_
        | refine thenQ_exit ?_
        | refine blockQ_hit ?_
        | refine aL_nil ?_
        | (apply aL_step; (· exact True.intro); (· simp (disch := first | omega | (simp only [go_sem]; omega)) only [go_sem, get_miss, seval, reduceCtorEq]); (· simp (disch := first | omega | (simp only [go_sem]; omega)) only [go_sem, get_miss, seval, reduceCtorEq] <;> with_reducible rfl); (· simp only [go_sem] <;> with_reducible rfl))
        | (refine aC_condF ?_ ?_; (· simp (disch := first | omega | (simp only [go_sem]; omega)) only [go_sem, get_miss, seval, reduceCtorEq]))
        | fail)
      all_goals try (first | exact True.intro | exact not_false | omega)
      all_goals try (simp (disch := first | omega | (simp only [go_sem]; omega)) only [go_sem, get_miss, seval, reduceCtorEq] <;> first | exact True.intro | omega)
      all_goals try (simp (disch := first | omega | (simp only [go_sem]; omega)) only [go_sem, get_miss, seval, reduceCtorEq])
      all_goals try simp
  all_goals first | trivial | omega | exact fun _ _ h => h.elim | simp

/-- The words of bytes. -/
def wds (l : List UInt8) (k : Nat) : List Nat := (List.range k).map (fun j => wdB l (j + 1)) ++ List.replicate (6 - k) 0
theorem wds_len (l : List UInt8) (k : Nat) (h : k ≤ 6) : (wds l k).length = 6 := by simp [wds]; omega
theorem wds_succ (l : List UInt8) (k : Nat) (h : k < 6) : (wds l k).set k (wdB l (k + 1)) = wds l (k + 1) := by
  unfold wds
  rw [List.set_append_right _ _ (by simp), List.range_succ, List.map_append]
  obtain ⟨m, hm⟩ : ∃ m, 6 - k = m + 1 := ⟨5 - k, by omega⟩
  rw [hm, List.replicate_succ, show 6 - (k + 1) = m by omega]
  simp
def OfOk (l : List UInt8) : Prop := l.length = 56 ∧ MayC (wdB l 0) (wds l 6)
instance (l : List UInt8) : Decidable (OfOk l) := by unfold OfOk; infer_instance
theorem zero_wl : ([.int .i64 0, .int .u64 0, .int .u64 0, .int .u64 0, .int .u64 0, .int .u64 0, .int .u64 0] : List AVal) = .int .i64 0 :: wl [0, 0, 0, 0, 0, 0] := rfl

theorem call_Of (nl : Bool) (l : List UInt8) (hl : l.length ≤ 1048576) : APure cx 27 [.sl 1 nl (bl l) .any]
    (if OfOk l then .tup [.agg (.int .i64 (wdB l 0 : Nat) :: wl (wds l 6)), .int .i64 0] else .tup [.agg (.int .i64 0 :: wl [0, 0, 0, 0, 0, 0]), .int .i64 4]) := by
  rw [← zero_wl]
  by_cases h56 : l.length = 56
  case neg =>
    rw [if_neg (fun h : OfOk l => h56 h.1)]
    have h56' : ¬ ((l.length : Int) = 56) := by omega
    refine pure_fn cxOk Tryd.func27 (by kernel_rfl) (fun _ => false) (fun _ => none) (by kernel_rfl) (Nat.le_of_ble_eq_true (by kernel_rfl)) ?_
    dsimp only [LB, Tryd.f27, lite, nextOf, Option.isNone, Bool.not_true, Bool.not_false, Bool.and_true, Bool.true_and, Bool.false_and, Bool.and_self, Bool.false_eq_true, if_false, if_true, ↓reduceIte, liteO, List.map, Option.map, frame0, List.zipIdx, Nat.reduceAdd]
    try simp only [List.getElem?_toArray, List.getElem?_cons_succ, List.getElem?_cons_zero, Option.bind_some]
    repeat' (first
      | refine aC_seq ?_
      | refine aC_reg rfl ?_
      | refine aC_ret ?_
      | refine thenQ_normal ?_
      | refine thenQ_ret ?_
      | refine aL_nil ?_
      | (apply aL_step; (· exact True.intro); (· simp (disch := first | omega | (simp only [go_sem]; omega)) only [go_sem, get_miss, seval, reduceCtorEq, h56', decide_true, decide_false, not_false_eq_true, not_true_eq_false]); (· simp (disch := first | omega | (simp only [go_sem]; omega)) only [go_sem, get_miss, seval, reduceCtorEq, h56', decide_true, decide_false, not_false_eq_true, not_true_eq_false] <;> with_reducible rfl); (· simp only [go_sem] <;> with_reducible rfl))
      | (refine aL_skip ?_ (by simp only [go_sem] <;> with_reducible rfl) ?_; (· simp (disch := first | omega | (simp only [go_sem]; omega)) only [go_sem, get_miss, seval, reduceCtorEq, h56', decide_true, decide_false, not_false_eq_true, not_true_eq_false]))
      | (refine aC_condT ?_ ?_; (· simp (disch := first | omega | (simp only [go_sem]; omega)) only [go_sem, get_miss, seval, reduceCtorEq, h56', decide_true, decide_false, not_false_eq_true, not_true_eq_false]))
      | fail)
    all_goals try (first | exact True.intro | exact not_false | omega)
    all_goals try (simp (disch := first | omega | (simp only [go_sem]; omega)) only [go_sem, get_miss, seval, reduceCtorEq] <;> first | exact True.intro | omega)
    all_goals try (simp (disch := first | omega | (simp only [go_sem]; omega)) only [go_sem, get_miss, seval, reduceCtorEq])
    all_goals try simp
  case pos =>
  have h56' : (l.length : Int) = 56 := by omega
  have hw0 := wire_word nl l 0 0 rfl (by omega) hl
  have hlt0 := wdB_lt l 0
  have hwk : ∀ k : Nat, k < 6 → APure cx 47 [.sl 1 nl (bl l) .any, .int .i64 (1 + (k : Int))] (.int .u64 (wdB l (k + 1))) := fun k hk => wire_word nl l (1 + (k : Int)) (k + 1) (by omega) (by omega) hl
  have hok : OfOk l ↔ MayC (wdB l 0) (wds l 6) := ⟨fun h => h.2, fun h => ⟨h56, h⟩⟩
  by_cases h21 : wdB l 0 ≤ 21
  case neg =>
    rw [if_neg (fun h : OfOk l => h21 (by have := (hok.1 h).1; omega))]
    clear hok hwk
    generalize wdB l 0 = W at *
    refine pure_fn cxOk Tryd.func27 (by kernel_rfl) (fun _ => false) (fun _ => none) (by kernel_rfl) (Nat.le_of_ble_eq_true (by kernel_rfl)) ?_
    dsimp only [LB, Tryd.f27, lite, nextOf, Option.isNone, Bool.not_true, Bool.not_false, Bool.and_true, Bool.true_and, Bool.false_and, Bool.and_self, Bool.false_eq_true, if_false, if_true, ↓reduceIte, liteO, List.map, Option.map, frame0, List.zipIdx, Nat.reduceAdd]
    try simp only [List.getElem?_toArray, List.getElem?_cons_succ, List.getElem?_cons_zero, Option.bind_some]
    repeat' (first
      | refine aC_seq ?_
      | refine aC_reg rfl ?_
      | refine aC_ret ?_
      | refine thenQ_normal ?_
      | refine thenQ_ret ?_
      | refine aL_nil ?_
      | (apply aL_step; (· exact True.intro); (· simp (disch := first | omega | (simp only [go_sem]; omega)) only [go_sem, get_miss, seval, reduceCtorEq, h56', decide_true, decide_false, not_false_eq_true, not_true_eq_false]); (· simp (disch := first | omega | (simp only [go_sem]; omega)) only [go_sem, get_miss, seval, reduceCtorEq, h56', decide_true, decide_false, not_false_eq_true, not_true_eq_false] <;> with_reducible rfl); (· simp only [go_sem] <;> with_reducible rfl))
      | (refine aC_condP (by simp (disch := first | omega | (simp only [go_sem]; omega)) only [go_sem, get_miss, seval, reduceCtorEq, h56', decide_true, decide_false, not_false_eq_true, not_true_eq_false] <;> with_reducible rfl) ?_ ?_ <;> (intro h; first | (exfalso; omega) | skip))
      | (apply aL_pure cxG (hw0); (case hg => (simp (disch := first | omega | (simp only [go_sem]; omega)) only [go_sem, get_miss, seval, reduceCtorEq, h56', decide_true, decide_false, not_false_eq_true, not_true_eq_false])); (case hx => (simp (disch := first | omega | (simp only [go_sem]; omega)) only [go_sem, get_miss, seval, reduceCtorEq, h56', decide_true, decide_false, not_false_eq_true, not_true_eq_false] <;> with_reducible rfl)); (case ha => (simp (disch := first | omega | (simp only [go_sem]; omega)) only [go_sem, get_miss, seval, reduceCtorEq, h56', decide_true, decide_false, not_false_eq_true, not_true_eq_false] <;> with_reducible rfl)); (case he => (simp only [go_sem] <;> with_reducible rfl)); (case hcl => (simp)); (case hf => (simp only [go_sem] <;> with_reducible rfl)))
      | fail)
    all_goals try (first | exact True.intro | exact not_false | omega)
    all_goals try (simp (disch := first | omega | (simp only [go_sem]; omega)) only [go_sem, get_miss, seval, reduceCtorEq] <;> first | exact True.intro | omega)
    all_goals (clear hw0)
    all_goals try (simp (disch := first | omega | (simp only [go_sem]; omega)) only [go_sem, get_miss, seval, reduceCtorEq])
    all_goals try simp
  case pos =>
  have hm := call_May (wdB l 0) (wds l 6) (wds_len l 6 (by decide))
  generalize hr : (if OfOk l then AVal.tup [.agg (.int .i64 (wdB l 0 : Nat) :: wl (wds l 6)), .int .i64 0] else AVal.tup [.agg [.int .i64 0, .int .u64 0, .int .u64 0, .int .u64 0, .int .u64 0, .int .u64 0, .int .u64 0], .int .i64 4]) = r
  have hyes : MayC (wdB l 0) (wds l 6) → r = AVal.tup [.agg (.int .i64 (wdB l 0 : Nat) :: wl (wds l 6)), .int .i64 0] := fun h => by rw [← hr, if_pos (hok.2 h)]
  have hno : ¬ MayC (wdB l 0) (wds l 6) → r = AVal.tup [.agg [.int .i64 0, .int .u64 0, .int .u64 0, .int .u64 0, .int .u64 0, .int .u64 0, .int .u64 0], .int .i64 4] := fun h => by rw [← hr, if_neg (fun k => h (hok.1 k))]
  clear hr hok
  have hlen := wds_len l
  generalize wdB l 0 = W at *
  refine pure_fn cxOk Tryd.func27 (by kernel_rfl) (fun _ => false) (fun _ => none) (by kernel_rfl) (Nat.le_of_ble_eq_true (by kernel_rfl)) ?_
  dsimp only [LB, Tryd.f27, lite, nextOf, Option.isNone, Bool.not_true, Bool.not_false, Bool.and_true, Bool.true_and, Bool.false_and, Bool.and_self, Bool.false_eq_true, if_false, if_true, ↓reduceIte, liteO, List.map, Option.map, frame0, List.zipIdx, Nat.reduceAdd]
  try simp only [List.getElem?_toArray, List.getElem?_cons_succ, List.getElem?_cons_zero, Option.bind_some]
  repeat' (first
    | refine aC_seq ?_
    | refine aC_reg rfl ?_
    | refine aC_block ?_
    | refine aC_skip ?_
    | refine aC_loop ?_
    | refine thenQ_normal ?_
    | refine aL_nil ?_
    | (apply aL_step; (· exact True.intro); (· simp (disch := first | omega | (simp only [go_sem]; omega)) only [go_sem, get_miss, seval, reduceCtorEq, h56', decide_true, decide_false, not_false_eq_true, not_true_eq_false]); (· simp (disch := first | omega | (simp only [go_sem]; omega)) only [go_sem, get_miss, seval, reduceCtorEq, h56', decide_true, decide_false, not_false_eq_true, not_true_eq_false] <;> with_reducible rfl); (· simp only [go_sem] <;> with_reducible rfl))
    | (refine aC_condP (by simp (disch := first | omega | (simp only [go_sem]; omega)) only [go_sem, get_miss, seval, reduceCtorEq, h56', decide_true, decide_false, not_false_eq_true, not_true_eq_false] <;> with_reducible rfl) ?_ ?_ <;> (intro h; first | (exfalso; omega) | skip))
    | (apply aL_pure cxG (hw0); (case hg => (simp (disch := first | omega | (simp only [go_sem]; omega)) only [go_sem, get_miss, seval, reduceCtorEq, h56', decide_true, decide_false, not_false_eq_true, not_true_eq_false])); (case hx => (simp (disch := first | omega | (simp only [go_sem]; omega)) only [go_sem, get_miss, seval, reduceCtorEq, h56', decide_true, decide_false, not_false_eq_true, not_true_eq_false] <;> with_reducible rfl)); (case ha => (simp (disch := first | omega | (simp only [go_sem]; omega)) only [go_sem, get_miss, seval, reduceCtorEq, h56', decide_true, decide_false, not_false_eq_true, not_true_eq_false] <;> with_reducible rfl)); (case he => (simp only [go_sem] <;> with_reducible rfl)); (case hcl => (simp)); (case hf => (simp only [go_sem] <;> with_reducible rfl)))
    | fail)
  · clear hw0
    refine loop_rule (cxOk.wp _ _) (σ := Nat) (fun k => [(19, .int .i64 k), (4, .ptr 1 0), (2, .ptr 0 0), (0, .sl 1 nl (bl l) .any)])
      (fun k => [.cells [.int .i64 0, .int .u64 0, .int .u64 0, .int .u64 0, .int .u64 0, .int .u64 0, .int .u64 0] 32, .cells (.int .i64 (W : Int) :: wl (wds l k)) 32]) (fun k => 6 - k) (fun k => k ≤ 6) 0 (GStep.refl _ _) ⟨Nat.zero_le _, Sub.of_all (by simp [Fr.get, frame0]), by simp [wds, wl]⟩ ?_
    intro k hk
    have hlk := hlen k hk
    by_cases hlt : k < 6
    · have hw := hwk k hlt
      have hs := wds_succ l k hlt
      clear hyes hno hwk hm
      generalize wdB l (k + 1) = V at *
      generalize wds l k = D at *
      repeat' (first
        | refine aC_seq ?_
        | refine aC_reg rfl ?_
        | refine aC_block ?_
        | refine aC_skip ?_
        | refine thenQ_normal ?_
        | refine blockQ_normal ?_
        | refine aL_nil ?_
        | (apply aL_step; (· exact True.intro); (· simp (disch := first | omega | (simp only [go_sem]; omega)) only [go_sem, get_miss, seval, reduceCtorEq, Nat.mul_one, hs]); (· simp (disch := first | omega | (simp only [go_sem]; omega)) only [go_sem, get_miss, seval, reduceCtorEq, Nat.mul_one, hs] <;> with_reducible rfl); (· simp only [go_sem] <;> with_reducible rfl))
        | (refine aC_condP (by simp (disch := first | omega | (simp only [go_sem]; omega)) only [go_sem, get_miss, seval, reduceCtorEq, Nat.mul_one, hs] <;> with_reducible rfl) ?_ ?_ <;> (intro h; first | (exfalso; omega) | skip))
        | (apply aL_pure cxG (hw); (case hg => (simp (disch := first | omega | (simp only [go_sem]; omega)) only [go_sem, get_miss, seval, reduceCtorEq, Nat.mul_one, hs])); (case hx => (simp (disch := first | omega | (simp only [go_sem]; omega)) only [go_sem, get_miss, seval, reduceCtorEq, Nat.mul_one, hs] <;> with_reducible rfl)); (case ha => (simp (disch := first | omega | (simp only [go_sem]; omega)) only [go_sem, get_miss, seval, reduceCtorEq, Nat.mul_one, hs] <;> with_reducible rfl)); (case he => (simp only [go_sem] <;> with_reducible rfl)); (case hcl => (simp)); (case hf => (simp only [go_sem] <;> with_reducible rfl)))
        | fail)
      all_goals try (first | exact True.intro | exact not_false | omega)
      all_goals try (simp (disch := first | omega | (simp only [go_sem]; omega)) only [go_sem, get_miss, seval, reduceCtorEq] <;> first | exact True.intro | omega)
      all_goals (clear hw)
      all_goals exact ⟨k + 1, by omega, Sub.of_all (by simp [Fr.get]), by simp [hs], by omega⟩
    · have hk' : k = 6 := by omega
      subst hk'
      clear hwk
      by_cases hM : MayC (W : Int) (wds l 6)
      case' pos => rw [hyes hM]; rw [decide_eq_true hM] at hm
      case' neg => rw [hno hM]; rw [decide_eq_false hM] at hm
      all_goals
      clear hyes hno hM
      generalize wds l 6 = D at *
      repeat' (first
        | refine aC_seq ?_
        | refine aC_reg rfl ?_
        | refine aC_skip ?_
        | refine aC_exit ?_
        | refine aC_ret ?_
        | refine thenQ_normal ?_
        | refine thenQ_ret ?_
        | refine thenQ_exit ?_
        | refine blockQ_hit ?_
        | refine aL_nil ?_
        | (apply aL_step; (· exact True.intro); (· simp (disch := first | omega | (simp only [go_sem]; omega)) only [go_sem, get_miss, seval, reduceCtorEq]); (· simp (disch := first | omega | (simp only [go_sem]; omega)) only [go_sem, get_miss, seval, reduceCtorEq] <;> with_reducible rfl); (· simp only [go_sem] <;> with_reducible rfl))
        | (refine aC_condT ?_ ?_; (· simp (disch := first | omega | (simp only [go_sem]; omega)) only [go_sem, get_miss, seval, reduceCtorEq]))
        | (refine aC_condF ?_ ?_; (· simp (disch := first | omega | (simp only [go_sem]; omega)) only [go_sem, get_miss, seval, reduceCtorEq]))
        | (apply aL_pure cxG (hm); (case hg => (simp (disch := first | omega | (simp only [go_sem]; omega)) only [go_sem, get_miss, seval, reduceCtorEq])); (case hx => (simp (disch := first | omega | (simp only [go_sem]; omega)) only [go_sem, get_miss, seval, reduceCtorEq] <;> with_reducible rfl)); (case ha => (simp (disch := first | omega | (simp only [go_sem]; omega)) only [go_sem, get_miss, seval, reduceCtorEq] <;> with_reducible rfl)); (case he => (simp only [go_sem] <;> with_reducible rfl)); (case hcl => (simp)); (case hf => (simp only [go_sem] <;> with_reducible rfl)))
        | fail)
      all_goals try (first | exact True.intro | exact not_false | omega)
      all_goals try (simp (disch := first | omega | (simp only [go_sem]; omega)) only [go_sem, get_miss, seval, reduceCtorEq] <;> first | exact True.intro | omega)
      all_goals (clear hm)
      all_goals try (simp (disch := first | omega | (simp only [go_sem]; omega)) only [go_sem, get_miss, seval, reduceCtorEq])
      all_goals try simp
      all_goals omega
  all_goals first | trivial | omega | exact fun _ _ h => h.elim | simp

end
end Go.Am
