/- A text's parts: strings.SplitSeq, the document's cut. -/
import Derived.Test.YtbaminbodfidmaaDoorP06
import Derived.Test.YtbaminbodfidmaaDoorAmWalkE
set_option linter.unusedVariables false
set_option linter.unusedSimpArgs false
namespace Go.Am
open Go Go.Proofs
set_option linter.unusedSimpArgs false
set_option linter.unusedVariables false
set_option maxHeartbeats 8000000
set_option maxRecDepth 100000
section
attribute [local irreducible] aC aL thenQ blockQ scopeQ ALoop AWp

/-- The place of a text's first blank. -/
theorem a_index (s : List UInt8) (hs : s.length ≤ 1048576) : APure cx 52 [.str s, .str [32]] (.int .i64 (Lib.index s [32])) :=
  apure_shelf (vs := [.string ⟨s.toArray⟩, .string ⟨[32].toArray⟩]) (callable_of Tryd.func52 (by kernel_rfl) (by kernel_rfl)) rfl fun w im0 hG => by
    obtain ⟨m, hm⟩ := GL.int (E := env0 w im0) (hG 5 _ rfl)
    have hz : (⟨s.toArray⟩ : ByteArray).size = s.length := rfl
    refine (Tryd.strings_Index ⟨s.toArray⟩ ⟨[32].toArray⟩ m w (by omega) hm).mono fun e w' h => ?_
    obtain ⟨rfl, rfl⟩ := h
    exact ⟨_, rfl, grown_same _, .int _ _⟩

/-- The state while a text is split. -/
def spS (X : ABox) (A : Nat → ABox) (B : Nat → ABox) (LP : ABox) (rest : List UInt8) (k : Nat) : St := [X, A k, .cells [.str rest] 9, .cells [.str [32]] 9, .cells [.int .i64 0] 3, LP, B k]

theorem split_all (s : List UInt8) (hs : s.length ≤ 1048576) (X : ABox) (A B : Nat → ABox) (LP : ABox)
    (hy : ∀ k, k < (parts s [32]).length → ∀ rest, AYield cx 5 [.str ((parts s [32]).getD k [])] (spS X A B LP rest k) (.bool true) (spS X A B LP rest (k + 1))) :
    ACall cx 50 [.yld 5, .ptr 3 0, .ptr 2 0, .ptr 4 0] (spS X A B LP s 0) (.tup []) (spS X A B LP ((parts s [32]).getD ((parts s [32]).length - 1) []) (parts s [32]).length) := by
  obtain ⟨P, hP⟩ : ∃ P, P = parts s [32] := ⟨_, rfl⟩
  rw [← hP] at hy ⊢
  refine acall_fn cxOk Tryd.func50 (by kernel_rfl) (fun _ => false) (fun _ => none) (by kernel_rfl) (Nat.le_of_ble_eq_true (by kernel_rfl)) ?_
  dsimp only [LB, Tryd.f50, lite, nextOf, Option.isNone, Bool.not_true, Bool.not_false, Bool.and_true, Bool.true_and, Bool.false_and, Bool.and_self, Bool.false_eq_true, if_false, if_true, ↓reduceIte, liteO, List.map, Option.map, frame0, List.zipIdx, Nat.reduceAdd]
  try simp only [List.getElem?_toArray, List.getElem?_cons_succ, List.getElem?_cons_zero, Option.bind_some]
  unfold spS
  repeat' (first
    | refine aC_seq ?_
    | refine aC_reg rfl ?_
    | refine aC_block ?_
    | refine aC_skip ?_
    | refine aC_loop ?_
    | refine aC_scope ?_
    | refine scopeQ_normal ?_
    | refine scopeQ_exit ?_
    | refine scopeQ_ret ?_
    | refine aC_exit ?_
    | refine aC_ret ?_
    | refine thenQ_normal ?_
    | refine blockQ_normal ?_
    | refine thenQ_ret ?_
    | refine blockQ_ret ?_
    | refine thenQ_exit ?_
    | refine blockQ_hit ?_
    | refine blockQ_miss rfl ?_
    | refine aL_nil ?_
    | (apply aL_step; (· exact True.intro); (· simp (disch := first | omega | (simp only [go_sem]; omega)) only [go_sem, get_miss, seval, reduceCtorEq]); (· simp (disch := first | omega | (simp only [go_sem]; omega)) only [go_sem, get_miss, seval, reduceCtorEq] <;> with_reducible rfl); (· simp only [go_sem] <;> with_reducible rfl))
    | (refine aL_skip ?_ (by simp only [go_sem] <;> with_reducible rfl) ?_; (· simp (disch := first | omega | (simp only [go_sem]; omega)) only [go_sem, get_miss, seval, reduceCtorEq]))
    | (apply aL_guardN; (· simp (disch := first | omega | (simp only [go_sem]; omega)) only [go_sem, get_miss, seval, reduceCtorEq] <;> with_reducible rfl); all_goals (intro h; first | (exfalso; omega) | (simp only [h, decide_true, decide_false, not_true, not_false_iff])))
    | (apply aL_guardP; (· simp (disch := first | omega | (simp only [go_sem]; omega)) only [go_sem, get_miss, seval, reduceCtorEq] <;> with_reducible rfl); all_goals (intro h; first | (exfalso; omega) | (simp only [h, decide_true, decide_false, not_true, not_false_iff])))
    | (refine aC_condT ?_ ?_; (· simp (disch := first | omega | (simp only [go_sem]; omega)) only [go_sem, get_miss, seval, reduceCtorEq]))
    | (refine aC_condF ?_ ?_; (· simp (disch := first | omega | (simp only [go_sem]; omega)) only [go_sem, get_miss, seval, reduceCtorEq]))
    | (refine aC_condP (by simp (disch := first | omega | (simp only [go_sem]; omega)) only [go_sem, get_miss, seval, reduceCtorEq] <;> with_reducible rfl) ?_ ?_ <;> (intro h; first | (exfalso; omega) | skip))
    | fail)
  · refine loop_rule (cxOk.wp _ _) (σ := Nat × List UInt8) (fun x => [(0, .yld 5), (1, .ptr 3 0), (2, .ptr 2 0), (3, .ptr 4 0)]) (fun x => spS X A B LP x.2 x.1) (fun x => x.2.length) (fun x => x.2.length ≤ s.length ∧ P = P.take x.1 ++ parts x.2 [32] ∧ x.1 < P.length)
      (0, s) (GStep.refl _ _) ⟨⟨Nat.le_refl _, by simp [hP], by rw [hP]; obtain ⟨w, r, h, _⟩ := parts_len s [32] (by decide); rw [h]; simp⟩, Sub.of_all (by simp [Fr.get, frame0]), rfl⟩ ?_
    rintro ⟨k, rest⟩ ⟨h1, h2, h3⟩
    simp only at h1 h2 h3 ⊢
    have hyk := hy k h3
    clear hy
    have hix := a_index rest (by omega)
    by_cases hm : (32 : UInt8) ∈ rest
    · obtain ⟨x, y, rfl, hx⟩ := List.eq_append_cons_of_mem hm
      rw [index_hit1 32 x y hx] at hix
      rw [parts_hit 32 x y hx] at h2
      have hl1 := congrArg List.length h2
      have hk : (P.take k).length = k := by rw [List.length_take]; omega
      have hg : P.getD k [] = x := by rw [h2]; simp [List.getD, hk]
      rw [hg] at hyk
      have hyk := hyk (x ++ 32 :: y)
      have ht : (x ++ 32 :: y).take x.length = x := by simp
      have hdr : (x ++ 32 :: y).drop (x.length + 1) = y := by rw [← List.drop_drop]; simp
      have hlen : (x ++ 32 :: y).length = x.length + y.length + 1 := by simp; omega
      have h4 : P = P.take (k + 1) ++ parts y [32] := by
        have e : P.take (k + 1) = P.take k ++ [x] := by
          rw [List.take_succ_eq_append_getElem h3]
          congr 1
          rw [← hg]; simp [List.getD, h3]
        rw [e, List.append_assoc, List.singleton_append]; exact h2
      obtain ⟨w, r, hw, _⟩ := parts_len y [32] (by decide)
      have h5 : k + 1 < P.length := by rw [hl1]; simp [hk, hw]
      clear h2 hl1 hg
      generalize hR : x ++ 32 :: y = R at *
      unfold spS at hyk ⊢
      repeat' (first
        | refine aC_seq ?_
        | refine aC_reg rfl ?_
        | refine aC_block ?_
        | refine aC_skip ?_
        | refine aC_loop ?_
        | refine aC_scope ?_
        | refine scopeQ_normal ?_
        | refine scopeQ_exit ?_
        | refine scopeQ_ret ?_
        | refine aC_exit ?_
        | refine aC_ret ?_
        | refine thenQ_normal ?_
        | refine blockQ_normal ?_
        | refine thenQ_ret ?_
        | refine blockQ_ret ?_
        | refine thenQ_exit ?_
        | refine blockQ_hit ?_
        | refine blockQ_miss rfl ?_
        | refine aL_nil ?_
        | (apply aL_step; (· exact True.intro); (· simp (disch := first | omega | (simp only [go_sem]; omega)) only [go_sem, get_miss, seval, reduceCtorEq, ht, hdr, Int.add_zero, Int.toNat_natCast]); (· simp (disch := first | omega | (simp only [go_sem]; omega)) only [go_sem, get_miss, seval, reduceCtorEq, ht, hdr, Int.add_zero, Int.toNat_natCast] <;> with_reducible rfl); (· simp only [go_sem] <;> with_reducible rfl))
        | (refine aL_skip ?_ (by simp only [go_sem] <;> with_reducible rfl) ?_; (· simp (disch := first | omega | (simp only [go_sem]; omega)) only [go_sem, get_miss, seval, reduceCtorEq, ht, hdr, Int.add_zero, Int.toNat_natCast]))
        | (apply aL_guardN; (· simp (disch := first | omega | (simp only [go_sem]; omega)) only [go_sem, get_miss, seval, reduceCtorEq, ht, hdr, Int.add_zero, Int.toNat_natCast] <;> with_reducible rfl); all_goals (intro h; first | (exfalso; omega) | (simp only [h, decide_true, decide_false, not_true, not_false_iff])))
        | (apply aL_guardP; (· simp (disch := first | omega | (simp only [go_sem]; omega)) only [go_sem, get_miss, seval, reduceCtorEq, ht, hdr, Int.add_zero, Int.toNat_natCast] <;> with_reducible rfl); all_goals (intro h; first | (exfalso; omega) | (simp only [h, decide_true, decide_false, not_true, not_false_iff])))
        | (refine aC_condT ?_ ?_; (· simp (disch := first | omega | (simp only [go_sem]; omega)) only [go_sem, get_miss, seval, reduceCtorEq, ht, hdr, Int.add_zero, Int.toNat_natCast]))
        | (refine aC_condF ?_ ?_; (· simp (disch := first | omega | (simp only [go_sem]; omega)) only [go_sem, get_miss, seval, reduceCtorEq, ht, hdr, Int.add_zero, Int.toNat_natCast]))
        | (refine aC_condP (by simp (disch := first | omega | (simp only [go_sem]; omega)) only [go_sem, get_miss, seval, reduceCtorEq, ht, hdr, Int.add_zero, Int.toNat_natCast] <;> with_reducible rfl) ?_ ?_ <;> (intro h; first | (exfalso; omega) | skip))
        | (apply aL_pure cxG (hix); (case hg => (simp (disch := first | omega | (simp only [go_sem]; omega)) only [go_sem, get_miss, seval, reduceCtorEq, ht, hdr, Int.add_zero, Int.toNat_natCast])); (case hx => (simp (disch := first | omega | (simp only [go_sem]; omega)) only [go_sem, get_miss, seval, reduceCtorEq, ht, hdr, Int.add_zero, Int.toNat_natCast] <;> with_reducible rfl)); (case ha => (simp (disch := first | omega | (simp only [go_sem]; omega)) only [go_sem, get_miss, seval, reduceCtorEq, ht, hdr, Int.add_zero, Int.toNat_natCast] <;> with_reducible rfl)); (case he => (simp only [go_sem] <;> with_reducible rfl)); (case hcl => (simp)); (case hf => (simp only [go_sem] <;> with_reducible rfl)))
        | (apply aL_yield (hyk); (case hg => (simp (disch := first | omega | (simp only [go_sem]; omega)) only [go_sem, get_miss, seval, reduceCtorEq, ht, hdr, Int.add_zero, Int.toNat_natCast])); (case hx => (simp (disch := first | omega | (simp only [go_sem]; omega)) only [go_sem, get_miss, seval, reduceCtorEq, ht, hdr, Int.add_zero, Int.toNat_natCast] <;> with_reducible rfl)); (case ha => (simp (disch := first | omega | (simp only [go_sem]; omega)) only [go_sem, get_miss, seval, reduceCtorEq, ht, hdr, Int.add_zero, Int.toNat_natCast] <;> with_reducible rfl)); (case he => (with_reducible rfl)); (case hf => (simp only [go_sem] <;> with_reducible rfl)))
        | fail)
      all_goals try (first | exact True.intro | exact not_false | omega)
      all_goals try (simp (disch := first | omega | (simp only [go_sem]; omega)) only [go_sem, get_miss, seval, reduceCtorEq] <;> first | exact True.intro | omega)
      all_goals exact ⟨(k + 1, y), ⟨by simp; omega, h4, h5⟩, Sub.of_all (by simp [Fr.get]), rfl, by simp; omega⟩
    · rw [index_miss1 32 rest hm] at hix
      rw [parts_miss 32 rest hm] at h2
      have hl1 := congrArg List.length h2
      have hk : (P.take k).length = k := by rw [List.length_take]; omega
      have hkl : k + 1 = P.length := by rw [hl1]; simp [hk]
      have hg : P.getD k [] = rest := by rw [h2]; simp [List.getD, hk]
      have hkk : P.length - 1 = k := by omega
      rw [hkk, ← hkl]
      rw [hg] at hyk ⊢
      have hyk := hyk rest
      clear h2 hl1
      unfold spS at hyk ⊢
      repeat' (first
        | refine aC_seq ?_
        | refine aC_reg rfl ?_
        | refine aC_block ?_
        | refine aC_skip ?_
        | refine aC_loop ?_
        | refine aC_scope ?_
        | refine scopeQ_normal ?_
        | refine scopeQ_exit ?_
        | refine scopeQ_ret ?_
        | refine aC_exit ?_
        | refine aC_ret ?_
        | refine thenQ_normal ?_
        | refine blockQ_normal ?_
        | refine thenQ_ret ?_
        | refine blockQ_ret ?_
        | refine thenQ_exit ?_
        | refine blockQ_hit ?_
        | refine blockQ_miss rfl ?_
        | refine aL_nil ?_
        | (apply aL_step; (· exact True.intro); (· simp (disch := first | omega | (simp only [go_sem]; omega)) only [go_sem, get_miss, seval, reduceCtorEq, Int.add_zero, Int.toNat_natCast]); (· simp (disch := first | omega | (simp only [go_sem]; omega)) only [go_sem, get_miss, seval, reduceCtorEq, Int.add_zero, Int.toNat_natCast] <;> with_reducible rfl); (· simp only [go_sem] <;> with_reducible rfl))
        | (refine aL_skip ?_ (by simp only [go_sem] <;> with_reducible rfl) ?_; (· simp (disch := first | omega | (simp only [go_sem]; omega)) only [go_sem, get_miss, seval, reduceCtorEq, Int.add_zero, Int.toNat_natCast]))
        | (apply aL_guardN; (· simp (disch := first | omega | (simp only [go_sem]; omega)) only [go_sem, get_miss, seval, reduceCtorEq, Int.add_zero, Int.toNat_natCast] <;> with_reducible rfl); all_goals (intro h; first | (exfalso; omega) | (simp only [h, decide_true, decide_false, not_true, not_false_iff])))
        | (apply aL_guardP; (· simp (disch := first | omega | (simp only [go_sem]; omega)) only [go_sem, get_miss, seval, reduceCtorEq, Int.add_zero, Int.toNat_natCast] <;> with_reducible rfl); all_goals (intro h; first | (exfalso; omega) | (simp only [h, decide_true, decide_false, not_true, not_false_iff])))
        | (refine aC_condT ?_ ?_; (· simp (disch := first | omega | (simp only [go_sem]; omega)) only [go_sem, get_miss, seval, reduceCtorEq, Int.add_zero, Int.toNat_natCast]))
        | (refine aC_condF ?_ ?_; (· simp (disch := first | omega | (simp only [go_sem]; omega)) only [go_sem, get_miss, seval, reduceCtorEq, Int.add_zero, Int.toNat_natCast]))
        | (refine aC_condP (by simp (disch := first | omega | (simp only [go_sem]; omega)) only [go_sem, get_miss, seval, reduceCtorEq, Int.add_zero, Int.toNat_natCast] <;> with_reducible rfl) ?_ ?_ <;> (intro h; first | (exfalso; omega) | skip))
        | (apply aL_pure cxG (hix); (case hg => (simp (disch := first | omega | (simp only [go_sem]; omega)) only [go_sem, get_miss, seval, reduceCtorEq, Int.add_zero, Int.toNat_natCast])); (case hx => (simp (disch := first | omega | (simp only [go_sem]; omega)) only [go_sem, get_miss, seval, reduceCtorEq, Int.add_zero, Int.toNat_natCast] <;> with_reducible rfl)); (case ha => (simp (disch := first | omega | (simp only [go_sem]; omega)) only [go_sem, get_miss, seval, reduceCtorEq, Int.add_zero, Int.toNat_natCast] <;> with_reducible rfl)); (case he => (simp only [go_sem] <;> with_reducible rfl)); (case hcl => (simp)); (case hf => (simp only [go_sem] <;> with_reducible rfl)))
        | (apply aL_yield (hyk); (case hg => (simp (disch := first | omega | (simp only [go_sem]; omega)) only [go_sem, get_miss, seval, reduceCtorEq, Int.add_zero, Int.toNat_natCast])); (case hx => (simp (disch := first | omega | (simp only [go_sem]; omega)) only [go_sem, get_miss, seval, reduceCtorEq, Int.add_zero, Int.toNat_natCast] <;> with_reducible rfl)); (case ha => (simp (disch := first | omega | (simp only [go_sem]; omega)) only [go_sem, get_miss, seval, reduceCtorEq, Int.add_zero, Int.toNat_natCast] <;> with_reducible rfl)); (case he => (with_reducible rfl)); (case hf => (simp only [go_sem] <;> with_reducible rfl)))
        | fail)
      all_goals try (first | exact True.intro | exact not_false | omega)
      all_goals try (simp (disch := first | omega | (simp only [go_sem]; omega)) only [go_sem, get_miss, seval, reduceCtorEq] <;> first | exact True.intro | omega)
  all_goals trivial

theorem split_seq0 (s : List UInt8) (X Y : ABox) : ACall cx 41 [.str s, .str [32], .int .i64 0] [X, Y] (.fn (.func 50) [] [.ptr 3 0, .ptr 2 0, .ptr 4 0]) [X, Y, .cells [.str s] 9, .cells [.str [32]] 9, .cells [.int .i64 0] 3] := by
  refine acall_fn cxOk Tryd.func41 (by kernel_rfl) (fun _ => false) (fun _ => none) (by kernel_rfl) (Nat.le_of_ble_eq_true (by kernel_rfl)) ?_
  dsimp only [LB, Tryd.f41, lite, nextOf, Option.isNone, Bool.not_true, Bool.not_false, Bool.and_true, Bool.true_and, Bool.false_and, Bool.and_self, Bool.false_eq_true, if_false, if_true, ↓reduceIte, liteO, List.map, Option.map, frame0, List.zipIdx, Nat.reduceAdd]
  try simp only [List.getElem?_toArray, List.getElem?_cons_succ, List.getElem?_cons_zero, Option.bind_some]
  repeat' (first
    | refine aC_seq ?_
    | refine aC_reg rfl ?_
    | refine aC_block ?_
    | refine aC_skip ?_
    | refine aC_loop ?_
    | refine aC_scope ?_
    | refine scopeQ_normal ?_
    | refine scopeQ_exit ?_
    | refine scopeQ_ret ?_
    | refine aC_exit ?_
    | refine aC_ret ?_
    | refine thenQ_normal ?_
    | refine blockQ_normal ?_
    | refine thenQ_ret ?_
    | refine blockQ_ret ?_
    | refine thenQ_exit ?_
    | refine blockQ_hit ?_
    | refine blockQ_miss rfl ?_
    | refine aL_nil ?_
    | (apply aL_step; (· exact True.intro); (· simp (disch := first | omega | (simp only [go_sem]; omega)) only [go_sem, get_miss, seval, reduceCtorEq]); (· simp (disch := first | omega | (simp only [go_sem]; omega)) only [go_sem, get_miss, seval, reduceCtorEq] <;> with_reducible rfl); (· simp only [go_sem] <;> with_reducible rfl))
    | (refine aL_skip ?_ (by simp only [go_sem] <;> with_reducible rfl) ?_; (· simp (disch := first | omega | (simp only [go_sem]; omega)) only [go_sem, get_miss, seval, reduceCtorEq]))
    | (apply aL_guardN; (· simp (disch := first | omega | (simp only [go_sem]; omega)) only [go_sem, get_miss, seval, reduceCtorEq] <;> with_reducible rfl); all_goals (intro h; first | (exfalso; omega) | (simp only [h, decide_true, decide_false, not_true, not_false_iff])))
    | (apply aL_guardP; (· simp (disch := first | omega | (simp only [go_sem]; omega)) only [go_sem, get_miss, seval, reduceCtorEq] <;> with_reducible rfl); all_goals (intro h; first | (exfalso; omega) | (simp only [h, decide_true, decide_false, not_true, not_false_iff])))
    | (refine aC_condT ?_ ?_; (· simp (disch := first | omega | (simp only [go_sem]; omega)) only [go_sem, get_miss, seval, reduceCtorEq]))
    | (refine aC_condF ?_ ?_; (· simp (disch := first | omega | (simp only [go_sem]; omega)) only [go_sem, get_miss, seval, reduceCtorEq]))
    | (refine aC_condP (by simp (disch := first | omega | (simp only [go_sem]; omega)) only [go_sem, get_miss, seval, reduceCtorEq] <;> with_reducible rfl) ?_ ?_ <;> (intro h; first | (exfalso; omega) | skip))
    | fail)
  all_goals try (first | exact True.intro | exact not_false | omega)
  all_goals try (simp (disch := first | omega | (simp only [go_sem]; omega)) only [go_sem, get_miss, seval, reduceCtorEq] <;> first | exact True.intro | omega)
  all_goals try (simp (disch := first | omega | (simp only [go_sem]; omega)) only [go_sem, get_miss, seval, reduceCtorEq])
  all_goals try simp
theorem split_seq (s : List UInt8) (X Y : ABox) : ACall cx 25 [.str s, .str [32]] [X, Y] (.fn (.func 50) [] [.ptr 3 0, .ptr 2 0, .ptr 4 0]) [X, Y, .cells [.str s] 9, .cells [.str [32]] 9, .cells [.int .i64 0] 3] := by
  have h := split_seq0 s X Y
  refine acall_fn cxOk Tryd.func25 (by kernel_rfl) (fun _ => false) (fun _ => none) (by kernel_rfl) (Nat.le_of_ble_eq_true (by kernel_rfl)) ?_
  dsimp only [LB, Tryd.f25, lite, nextOf, Option.isNone, Bool.not_true, Bool.not_false, Bool.and_true, Bool.true_and, Bool.false_and, Bool.and_self, Bool.false_eq_true, if_false, if_true, ↓reduceIte, liteO, List.map, Option.map, frame0, List.zipIdx, Nat.reduceAdd]
  try simp only [List.getElem?_toArray, List.getElem?_cons_succ, List.getElem?_cons_zero, Option.bind_some]
  repeat' (first
    | refine aC_seq ?_
    | refine aC_reg rfl ?_
    | refine aC_block ?_
    | refine aC_skip ?_
    | refine aC_loop ?_
    | refine aC_scope ?_
    | refine scopeQ_normal ?_
    | refine scopeQ_exit ?_
    | refine scopeQ_ret ?_
    | refine aC_exit ?_
    | refine aC_ret ?_
    | refine thenQ_normal ?_
    | refine blockQ_normal ?_
    | refine thenQ_ret ?_
    | refine blockQ_ret ?_
    | refine thenQ_exit ?_
    | refine blockQ_hit ?_
    | refine blockQ_miss rfl ?_
    | refine aL_nil ?_
    | (apply aL_step; (· exact True.intro); (· simp (disch := first | omega | (simp only [go_sem]; omega)) only [go_sem, get_miss, seval, reduceCtorEq]); (· simp (disch := first | omega | (simp only [go_sem]; omega)) only [go_sem, get_miss, seval, reduceCtorEq] <;> with_reducible rfl); (· simp only [go_sem] <;> with_reducible rfl))
    | (refine aL_skip ?_ (by simp only [go_sem] <;> with_reducible rfl) ?_; (· simp (disch := first | omega | (simp only [go_sem]; omega)) only [go_sem, get_miss, seval, reduceCtorEq]))
    | (apply aL_guardN; (· simp (disch := first | omega | (simp only [go_sem]; omega)) only [go_sem, get_miss, seval, reduceCtorEq] <;> with_reducible rfl); all_goals (intro h; first | (exfalso; omega) | (simp only [h, decide_true, decide_false, not_true, not_false_iff])))
    | (apply aL_guardP; (· simp (disch := first | omega | (simp only [go_sem]; omega)) only [go_sem, get_miss, seval, reduceCtorEq] <;> with_reducible rfl); all_goals (intro h; first | (exfalso; omega) | (simp only [h, decide_true, decide_false, not_true, not_false_iff])))
    | (refine aC_condT ?_ ?_; (· simp (disch := first | omega | (simp only [go_sem]; omega)) only [go_sem, get_miss, seval, reduceCtorEq]))
    | (refine aC_condF ?_ ?_; (· simp (disch := first | omega | (simp only [go_sem]; omega)) only [go_sem, get_miss, seval, reduceCtorEq]))
    | (refine aC_condP (by simp (disch := first | omega | (simp only [go_sem]; omega)) only [go_sem, get_miss, seval, reduceCtorEq] <;> with_reducible rfl) ?_ ?_ <;> (intro h; first | (exfalso; omega) | skip))
    | (apply aL_acall (h); (case hg => (simp (disch := first | omega | (simp only [go_sem]; omega)) only [go_sem, get_miss, seval, reduceCtorEq])); (case hx => (simp (disch := first | omega | (simp only [go_sem]; omega)) only [go_sem, get_miss, seval, reduceCtorEq] <;> with_reducible rfl)); (case ha => (simp (disch := first | omega | (simp only [go_sem]; omega)) only [go_sem, get_miss, seval, reduceCtorEq] <;> with_reducible rfl)); (case he => (with_reducible rfl)); (case hp => (rfl)); (case hf => (simp only [go_sem] <;> with_reducible rfl)))
    | fail)
  all_goals try (first | exact True.intro | exact not_false | omega)
  all_goals try (simp (disch := first | omega | (simp only [go_sem]; omega)) only [go_sem, get_miss, seval, reduceCtorEq] <;> first | exact True.intro | omega)
  all_goals try (simp (disch := first | omega | (simp only [go_sem]; omega)) only [go_sem, get_miss, seval, reduceCtorEq])
  all_goals try simp
end
end Go.Am
