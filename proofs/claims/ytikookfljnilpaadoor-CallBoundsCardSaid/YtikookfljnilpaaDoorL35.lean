/- CallBounds: plain laws of its texts. -/
import Derived.Test.YtikookfljnilpaaDoorL27
section
set_option linter.unusedVariables false
set_option linter.unusedSimpArgs false
namespace Go.Am
open Go Go.Proofs
set_option linter.unusedSimpArgs false
set_option linter.unusedVariables false
set_option maxHeartbeats 4000000
set_option maxRecDepth 100000

theorem jn_parts : ∀ (L : List (List UInt8)) (rest : List UInt8), (∀ x ∈ L, (10 : UInt8) ∉ x) → (10 : UInt8) ∉ rest → parts (jn L rest) [10] = L ++ [rest]
  | [], rest, _, h => parts_miss 10 rest h
  | x :: L, rest, hL, h => by
    rw [jn_cons, parts_hit 10 x _ (hL x (List.mem_cons_self ..)), jn_parts L rest (fun y hy => hL y (List.mem_cons_of_mem _ hy)) h, List.cons_append]
theorem jn_rest (L : List (List UInt8)) (rest : List UInt8) : jn L rest = jn L [] ++ rest := by simp [jn]
theorem jn_add (L : List (List UInt8)) (x : List UInt8) : jn (L ++ [x]) [] = jn L [] ++ (x ++ [10]) := by simp [jn]

/-- The line of the bounds. -/
def R0 : List UInt8 := [114, 111, 119, 32, 48]
def many (n : Nat) : List UInt8 := jn (List.replicate n R0) []
theorem many_zero : many 0 = [] := rfl
theorem many_succ (n : Nat) : many (n + 1) = many n ++ [114, 111, 119, 32, 48, 10] := by
  unfold many
  rw [List.replicate_succ', jn_add]
  rfl
theorem many_len : ∀ n : Nat, (many n).length = 6 * n
  | 0 => rfl
  | n + 1 => by rw [many_succ, List.length_append, many_len n]; simp; omega
theorem r0_no : (10 : UInt8) ∉ R0 := by decide
theorem r0_is : IsCall R0 21 [0, 0, 0, 0, 0, 0] := by
  refine ⟨⟨by decide, fun x h => ?_⟩, rfl, fun x h => ?_, ?_⟩
  · have := List.mem_of_mem_drop h
    simp at this
    exact this
  · simp at h
    omega
  · decide +kernel
theorem not_empty : ¬ IsC [] := by
  rintro ⟨op, xs, hm, hx, _, h⟩
  have := (cnm_in hm.1).1
  have h2 := congrArg List.length h
  unfold ctx ctxK at h2
  rw [List.length_append] at h2
  simp at h2
  simp [h2.1] at this
theorem row_parts : parts [114, 111, 119] [32] = [[114, 111, 119]] := parts_miss 32 _ (by decide)
/-- 18446744073709551616. -/
def BIG : List UInt8 := [49, 56, 52, 52, 54, 55, 52, 52, 48, 55, 51, 55, 48, 57, 53, 53, 49, 54, 49, 54]
theorem big_parts : parts ([114, 111, 119] ++ 32 :: BIG) [32] = [[114, 111, 119], BIG] := by
  rw [parts_hit 32 [114, 111, 119] BIG (by decide), parts_miss 32 BIG (by decide)]
theorem big_none : puP BIG = none := by decide +kernel
theorem not_row : ¬ IsC [114, 111, 119] := by
  rintro ⟨op, xs, h⟩
  have hp := call_parts h
  rw [row_parts] at hp
  have hl := congrArg List.length hp
  have := car_in h.1.1
  simp [h.2.1] at hl
  omega
theorem not_big : ¬ IsC ([114, 111, 119] ++ 32 :: BIG) := by
  rintro ⟨op, xs, h⟩
  have hp := call_parts h
  rw [big_parts] at hp
  injection hp with _ hp
  cases e : xs.take (car op) with
  | nil => rw [e] at hp; cases hp
  | cons x l =>
    rw [e, List.map_cons] at hp
    injection hp with hp _
    have hx : x < 18446744073709551616 := h.2.2.1 x (List.mem_of_mem_take (by rw [e]; exact List.mem_cons_self ..))
    have := puP_dec x hx
    rw [← hp, big_none] at this
    cases this

/-! ### What the texts are read as -/
theorem u_at (L : List (List UInt8)) (rest : List UInt8) (hs : (jn L rest).length ≤ 1048576) (hL : ∀ x ∈ L, (10 : UInt8) ∉ x) (h : (10 : UInt8) ∉ rest) (r : AVal) (hr : UnR L rest r) : APure cx 32 [.str (jn L rest)] r :=
  call_Unlist _ L rest hs (jn_parts L rest hL h) hL h rfl r hr
theorem u_rows (n : Nat) (h : n ≤ 65536) : ∃ (b : Bool) (M : List Ca), M.length = n ∧ APure cx 32 [.str (many n)] (.tup [.sl 7 b (cvs M) .any, .int .i64 0, .int .i64 0]) := by
  refine ⟨_, (List.replicate n R0).map callL, by rw [List.length_map, List.length_replicate], u_at (List.replicate n R0) [] ?_ ?_ (by simp) _ (.inr (.inl ⟨?_, ?_, rfl, rfl⟩))⟩
  · have := many_len n
    unfold many at this
    omega
  · intro x hx
    rw [List.eq_of_mem_replicate hx]
    exact r0_no
  · rintro (k | ⟨_, k⟩)
    · rw [List.length_replicate] at k; omega
    · exact k rfl
  · intro x hx
    rw [List.eq_of_mem_replicate hx]
    exact ⟨21, _, r0_is⟩
theorem u_long (n : Nat) (h : n = 65536) : APure cx 32 [.str (many n ++ [120])] (.tup [.sl 1 true [] .any, .int .i64 0, .int .i64 3]) := by
  have e : many n ++ [120] = jn (List.replicate n R0) [120] := (jn_rest _ _).symm
  have hl := many_len n
  have hl2 := congrArg List.length e
  rw [List.length_append, hl] at hl2
  rw [e]
  refine u_at (List.replicate n R0) [120] ?_ ?_ (by decide) _ (.inl ⟨.inr ⟨by rw [List.length_replicate]; exact h, by simp⟩, rfl⟩)
  · rw [← hl2]; simp; omega
  · intro x hx
    rw [List.eq_of_mem_replicate hx]
    exact r0_no
theorem u_none : APure cx 32 [.str []] (.tup [.sl 7 true [] .any, .int .i64 0, .int .i64 0]) :=
  u_at [] [] (by decide) (by simp) (by simp) _ (.inr (.inl ⟨by rintro (k | ⟨_, k⟩) <;> simp at k, by simp, rfl, rfl⟩))
theorem u_half : APure cx 32 [.str [114, 111, 119, 32, 48, 10, 114, 111, 119, 32, 48]] (.tup [.sl 1 true [] .any, .int .i64 1, .int .i64 4]) :=
  u_at [R0] R0 (by decide) (fun x hx => by rw [List.mem_singleton.1 hx]; exact r0_no) r0_no _ (.inr (.inr ⟨by rintro (k | ⟨k, _⟩) <;> simp at k, 1, by decide, fun x hx => by
    rw [List.mem_singleton.1 hx]; exact ⟨21, _, r0_is⟩, .inr ⟨rfl, by decide⟩, rfl⟩))
theorem u_gap : APure cx 32 [.str [114, 111, 119, 32, 48, 10, 10]] (.tup [.sl 1 true [] .any, .int .i64 1, .int .i64 4]) :=
  u_at [R0, []] [] (by decide) (fun x hx => by
    rcases List.mem_cons.1 hx with rfl | hx
    · exact r0_no
    · rw [List.mem_singleton.1 hx]; simp) (by simp) _ (.inr (.inr ⟨by rintro (k | ⟨k, _⟩) <;> simp at k, 1, by decide, fun x hx => by
    rw [List.mem_singleton.1 hx]; exact ⟨21, _, r0_is⟩, .inl ⟨by decide, not_empty⟩, rfl⟩))
theorem u_row : APure cx 32 [.str [114, 111, 119, 10]] (.tup [.sl 1 true [] .any, .int .i64 0, .int .i64 4]) :=
  u_at [[114, 111, 119]] [] (by decide) (fun x hx => by rw [List.mem_singleton.1 hx]; decide) (by simp) _ (.inr (.inr ⟨by rintro (k | ⟨k, _⟩) <;> simp at k, 0, by decide, fun x hx => (by cases hx), .inl ⟨by decide, not_row⟩, rfl⟩))
theorem u_big : APure cx 32 [.str [114, 111, 119, 32, 49, 56, 52, 52, 54, 55, 52, 52, 48, 55, 51, 55, 48, 57, 53, 53, 49, 54, 49, 54, 10]] (.tup [.sl 1 true [] .any, .int .i64 0, .int .i64 4]) := by
  have e : jn [[114, 111, 119] ++ 32 :: BIG] [] = [114, 111, 119, 32, 49, 56, 52, 52, 54, 55, 52, 52, 48, 55, 51, 55, 48, 57, 53, 53, 49, 54, 49, 54, 10] := by decide +kernel
  rw [← e]
  exact u_at [[114, 111, 119] ++ 32 :: BIG] [] (by decide) (fun x hx => by rw [List.mem_singleton.1 hx]; decide) (by simp) _ (.inr (.inr ⟨by rintro (k | ⟨k, _⟩) <;> simp at k, 0, by decide, fun x hx => (by cases hx), .inl ⟨by decide, not_big⟩, rfl⟩))
end Go.Am
end
section
set_option linter.unusedVariables false
set_option linter.unusedSimpArgs false
namespace Go.Am
open Go Go.Proofs
set_option linter.unusedSimpArgs false
set_option linter.unusedVariables false
set_option maxHeartbeats 4000000
set_option maxRecDepth 100000
section
attribute [local irreducible] aC aL thenQ blockQ scopeQ ALoop AWp

theorem law_wrong (s : List UInt8) (n e : Int) (h : APure cx 32 [.str s] (.tup [.sl 1 true [] .any, .int .i64 n, .int .i64 e])) : APure cx 36 [.str s, .int .i64 n, .int .i64 e] (.bool true) := by
  have he := law_num e
  refine pure_fn cxOk Tryd.func36 (by kernel_rfl) (fun _ => false) (fun _ => none) (by kernel_rfl) (Nat.le_of_ble_eq_true (by kernel_rfl)) ?_
  dsimp only [LB, Tryd.f36, lite, nextOf, Option.isNone, Bool.not_true, Bool.not_false, Bool.and_true, Bool.true_and, Bool.false_and, Bool.and_self, Bool.false_eq_true, if_false, if_true, ↓reduceIte, liteO, List.map, Option.map, frame0, List.zipIdx, Nat.reduceAdd]
  try simp only [List.getElem?_toArray, List.getElem?_cons_succ, List.getElem?_cons_zero, Option.bind_some]
  repeat' (first
    | refine aC_seq ?_
    | refine aC_reg rfl ?_
    | refine aC_block ?_
    | refine aC_skip ?_
    | refine aC_loop ?_
    | refine aC_scope ?_
    | refine scopeQ_normal ?_
    | refine scopeQ_exit ?_
    | refine scopeQ_ret ?_
    | refine aC_exit ?_
    | refine aC_ret ?_
    | refine thenQ_normal ?_
    | refine blockQ_normal ?_
    | refine thenQ_ret ?_
    | refine blockQ_ret ?_
    | refine thenQ_exit ?_
    | refine blockQ_hit ?_
    | refine blockQ_miss rfl ?_
    | refine aL_nil ?_
    | (apply aL_step; (· exact True.intro); (· simp (disch := first | omega | (simp only [go_sem]; omega)) only [go_sem, get_miss, seval, reduceCtorEq, eq_self_iff_true, decide_true, beq_self_eq_true]); (· simp (disch := first | omega | (simp only [go_sem]; omega)) only [go_sem, get_miss, seval, reduceCtorEq, eq_self_iff_true, decide_true, beq_self_eq_true] <;> with_reducible rfl); (· simp only [go_sem] <;> with_reducible rfl))
    | (refine aL_skip ?_ (by simp only [go_sem] <;> with_reducible rfl) ?_; (· simp (disch := first | omega | (simp only [go_sem]; omega)) only [go_sem, get_miss, seval, reduceCtorEq, eq_self_iff_true, decide_true, beq_self_eq_true]))
    | (apply aL_guardN; (· simp (disch := first | omega | (simp only [go_sem]; omega)) only [go_sem, get_miss, seval, reduceCtorEq, eq_self_iff_true, decide_true, beq_self_eq_true] <;> with_reducible rfl); all_goals (intro h; first | (exfalso; omega) | (simp only [h, decide_true, decide_false, not_true, not_false_iff])))
    | (apply aL_guardP; (· simp (disch := first | omega | (simp only [go_sem]; omega)) only [go_sem, get_miss, seval, reduceCtorEq, eq_self_iff_true, decide_true, beq_self_eq_true] <;> with_reducible rfl); all_goals (intro h; first | (exfalso; omega) | (simp only [h, decide_true, decide_false, not_true, not_false_iff])))
    | (refine aC_condT ?_ ?_; (· simp (disch := first | omega | (simp only [go_sem]; omega)) only [go_sem, get_miss, seval, reduceCtorEq, eq_self_iff_true, decide_true, beq_self_eq_true]))
    | (refine aC_condF ?_ ?_; (· simp (disch := first | omega | (simp only [go_sem]; omega)) only [go_sem, get_miss, seval, reduceCtorEq, eq_self_iff_true, decide_true, beq_self_eq_true]))
    | (refine aC_condP (by simp (disch := first | omega | (simp only [go_sem]; omega)) only [go_sem, get_miss, seval, reduceCtorEq, eq_self_iff_true, decide_true, beq_self_eq_true] <;> with_reducible rfl) ?_ ?_ <;> (intro h; first | (exfalso; omega) | skip))
    | (apply aL_pure cxG (h); (case hg => (simp (disch := first | omega | (simp only [go_sem]; omega)) only [go_sem, get_miss, seval, reduceCtorEq, eq_self_iff_true, decide_true, beq_self_eq_true])); (case hx => (simp (disch := first | omega | (simp only [go_sem]; omega)) only [go_sem, get_miss, seval, reduceCtorEq, eq_self_iff_true, decide_true, beq_self_eq_true] <;> with_reducible rfl)); (case ha => (simp (disch := first | omega | (simp only [go_sem]; omega)) only [go_sem, get_miss, seval, reduceCtorEq, eq_self_iff_true, decide_true, beq_self_eq_true] <;> with_reducible rfl)); (case he => (simp only [go_sem] <;> with_reducible rfl)); (case hcl => (simp)); (case hf => (simp only [go_sem] <;> with_reducible rfl)))
    | (apply aL_pure cxG (he); (case hg => (simp (disch := first | omega | (simp only [go_sem]; omega)) only [go_sem, get_miss, seval, reduceCtorEq, eq_self_iff_true, decide_true, beq_self_eq_true])); (case hx => (simp (disch := first | omega | (simp only [go_sem]; omega)) only [go_sem, get_miss, seval, reduceCtorEq, eq_self_iff_true, decide_true, beq_self_eq_true] <;> with_reducible rfl)); (case ha => (simp (disch := first | omega | (simp only [go_sem]; omega)) only [go_sem, get_miss, seval, reduceCtorEq, eq_self_iff_true, decide_true, beq_self_eq_true] <;> with_reducible rfl)); (case he => (simp only [go_sem] <;> with_reducible rfl)); (case hcl => (simp)); (case hf => (simp only [go_sem] <;> with_reducible rfl)))
    | fail)
  all_goals try (first | exact True.intro | exact not_false | omega)
  all_goals try (simp (disch := first | omega | (simp only [go_sem]; omega)) only [go_sem, get_miss, seval, reduceCtorEq] <;> first | exact True.intro | omega)
  all_goals try (simp (disch := first | omega | (simp only [go_sem]; omega)) only [go_sem, get_miss, seval, reduceCtorEq])
  all_goals try simp

theorem APure.nil1 {f : FuncId} {sz sz' : Nat} {r : AVal} (h : APure cx f [.sl sz true [] .any] r) : APure cx f [.sl sz' true [] .any] r :=
  ⟨h.callable, fun w im0 vs hw hs hr => h.ok w im0 vs hw hs fun j hj => by
    obtain rfl : j = 0 := by simpa using hj
    have := hr 0 (by simp)
    simp only [List.getElem_cons_zero] at this ⊢
    generalize vs.getD 0 undef = x at *
    cases this with
    | slnil => exact .slnil _ _ trivial⟩
theorem list_none : APure cx 31 [.sl 1 true [] .any] (.tup [.str [], .int .i64 0]) := by
  have h := call_List true [] (by simp) (by decide)
  rw [if_neg (by decide), if_pos (by simp)] at h
  exact APure.nil1 h
def Z1 : Ca := (0, [0, 0, 0, 0, 0, 0])
theorem list_long (n : Nat) (h : n = 65537) : APure cx 31 [.sl 7 false (cvs (List.replicate n Z1)) .any] (.tup [.str [], .int .i64 3]) := by
  have h1 := call_List false (List.replicate n Z1) (fun c hc => by
    rw [List.eq_of_mem_replicate hc]
    exact ⟨rfl, fun x hx => by simp [Z1] at hx; omega⟩) (by rw [List.length_replicate]; omega)
  rw [if_pos (by rw [List.length_replicate]; omega)] at h1
  exact h1
theorem cvs_rep (n : Nat) : List.replicate n (AVal.agg [.int .i64 0, .int .u64 0, .int .u64 0, .int .u64 0, .int .u64 0, .int .u64 0, .int .u64 0]) = cvs (List.replicate n Z1) := by
  unfold cvs
  rw [List.map_replicate]
  rfl

theorem law_bounds : APure cx 8 [] (.bool true) := by
  have hk := call_known
  obtain ⟨n, hn⟩ : ∃ n : Nat, n = 65537 := ⟨_, rfl⟩
  have hll := list_long n hn
  have hcr := cvs_rep n
  conv at hcr => lhs; rw [hn]
  generalize List.replicate n Z1 = Z at *
  have hn0 := law_num 0
  have hn3 := law_num 3
  have w1 := law_wrong _ 1 4 u_half
  have w2 := law_wrong _ 1 4 u_gap
  have w3 := law_wrong _ 0 4 u_row
  have w4 := law_wrong _ 0 4 u_big
  refine pure_fn cxOk Tryd.func8 (by kernel_rfl) (fun _ => false) (fun _ => none) (by kernel_rfl) (Nat.le_of_ble_eq_true (by kernel_rfl)) ?_
  dsimp only [LB, Tryd.f8, lite, nextOf, Option.isNone, Bool.not_true, Bool.not_false, Bool.and_true, Bool.true_and, Bool.false_and, Bool.and_self, Bool.false_eq_true, if_false, if_true, ↓reduceIte, liteO, List.map, Option.map, frame0, List.zipIdx, Nat.reduceAdd]
  try simp only [List.getElem?_toArray, List.getElem?_cons_succ, List.getElem?_cons_zero, Option.bind_some]
  repeat' (first
    | (apply aL_room; (case hg => (simp (disch := first | omega | (simp only [go_sem]; omega)) only [go_sem, get_miss, seval, reduceCtorEq])); (case hi => (simp (disch := first | omega | (simp only [go_sem]; omega)) only [go_sem, get_miss, seval, reduceCtorEq] <;> with_reducible rfl)); (case hd => (rfl)); (case hj => (simp (disch := first | omega | (simp only [go_sem]; omega)) only [go_sem, get_miss, seval, reduceCtorEq] <;> with_reducible rfl)); (case hb => (exact ⟨by decide +kernel, by decide +kernel, by decide +kernel⟩)); (case hf => (simp only [go_sem] <;> with_reducible rfl)))
    | refine aC_seq ?_
    | refine aC_reg rfl ?_
    | refine aC_block ?_
    | refine aC_skip ?_
    | refine aC_loop ?_
    | refine aC_scope ?_
    | refine scopeQ_normal ?_
    | refine scopeQ_exit ?_
    | refine scopeQ_ret ?_
    | refine aC_exit ?_
    | refine aC_ret ?_
    | refine thenQ_normal ?_
    | refine blockQ_normal ?_
    | refine thenQ_ret ?_
    | refine blockQ_ret ?_
    | refine thenQ_exit ?_
    | refine blockQ_hit ?_
    | refine blockQ_miss rfl ?_
    | refine aL_nil ?_
    | (apply aL_step; (· exact True.intro); (· simp (disch := first | omega | (simp only [go_sem]; omega)) only [go_sem, get_miss, seval, reduceCtorEq]); (· simp (disch := first | omega | (simp only [go_sem]; omega)) only [go_sem, get_miss, seval, reduceCtorEq] <;> with_reducible rfl); (· simp only [go_sem] <;> with_reducible rfl))
    | (refine aL_skip ?_ (by simp only [go_sem] <;> with_reducible rfl) ?_; (· simp (disch := first | omega | (simp only [go_sem]; omega)) only [go_sem, get_miss, seval, reduceCtorEq]))
    | (apply aL_guardN; (· simp (disch := first | omega | (simp only [go_sem]; omega)) only [go_sem, get_miss, seval, reduceCtorEq] <;> with_reducible rfl); all_goals (intro h; first | (exfalso; omega) | (simp only [h, decide_true, decide_false, not_true, not_false_iff])))
    | (apply aL_guardP; (· simp (disch := first | omega | (simp only [go_sem]; omega)) only [go_sem, get_miss, seval, reduceCtorEq] <;> with_reducible rfl); all_goals (intro h; first | (exfalso; omega) | (simp only [h, decide_true, decide_false, not_true, not_false_iff])))
    | (refine aC_condT ?_ ?_; (· simp (disch := first | omega | (simp only [go_sem]; omega)) only [go_sem, get_miss, seval, reduceCtorEq]))
    | (refine aC_condF ?_ ?_; (· simp (disch := first | omega | (simp only [go_sem]; omega)) only [go_sem, get_miss, seval, reduceCtorEq]))
    | (refine aC_condP (by simp (disch := first | omega | (simp only [go_sem]; omega)) only [go_sem, get_miss, seval, reduceCtorEq] <;> with_reducible rfl) ?_ ?_ <;> (intro h; first | (exfalso; omega) | skip))
    | fail)
  · refine loop_rule (cxOk.wp _ _) (σ := Nat) (fun k => [(2, .int .i64 k), (1, .sl 1 false (bl (many k)) (.grow 0))]) (fun k => [.grow (many k).length 1 5]) (fun k => 65536 - k) (fun k => k ≤ 65536) 0 (GStep.refl _ _)
      ⟨Nat.zero_le _, Sub.of_all (by simp [Fr.get, frame0, many_zero, bl]), by simp [many_zero]⟩ ?_
    intro k hk6
    have hml := many_len k
    have hms := many_succ k
    by_cases hlt : k < 65536
    · generalize many k = M at *
      clear hk hll hcr hn0 hn3 w1 w2 w3 w4
      repeat' (first
        | refine aC_seq ?_
        | refine aC_reg rfl ?_
        | refine aC_block ?_
        | refine aC_skip ?_
        | refine aC_loop ?_
        | refine aC_scope ?_
        | refine scopeQ_normal ?_
        | refine scopeQ_exit ?_
        | refine scopeQ_ret ?_
        | refine aC_exit ?_
        | refine aC_ret ?_
        | refine thenQ_normal ?_
        | refine blockQ_normal ?_
        | refine thenQ_ret ?_
        | refine blockQ_ret ?_
        | refine thenQ_exit ?_
        | refine blockQ_hit ?_
        | refine blockQ_miss rfl ?_
        | refine aL_nil ?_
        | (apply aL_step; (· exact True.intro); (· simp (disch := first | omega | (simp only [go_sem]; omega)) only [go_sem, get_miss, seval, reduceCtorEq]); (· simp (disch := first | omega | (simp only [go_sem]; omega)) only [go_sem, get_miss, seval, reduceCtorEq] <;> with_reducible rfl); (· simp only [go_sem] <;> with_reducible rfl))
        | (refine aL_skip ?_ (by simp only [go_sem] <;> with_reducible rfl) ?_; (· simp (disch := first | omega | (simp only [go_sem]; omega)) only [go_sem, get_miss, seval, reduceCtorEq]))
        | (apply aL_guardN; (· simp (disch := first | omega | (simp only [go_sem]; omega)) only [go_sem, get_miss, seval, reduceCtorEq] <;> with_reducible rfl); all_goals (intro h; first | (exfalso; omega) | (simp only [h, decide_true, decide_false, not_true, not_false_iff])))
        | (apply aL_guardP; (· simp (disch := first | omega | (simp only [go_sem]; omega)) only [go_sem, get_miss, seval, reduceCtorEq] <;> with_reducible rfl); all_goals (intro h; first | (exfalso; omega) | (simp only [h, decide_true, decide_false, not_true, not_false_iff])))
        | (refine aC_condT ?_ ?_; (· simp (disch := first | omega | (simp only [go_sem]; omega)) only [go_sem, get_miss, seval, reduceCtorEq]))
        | (refine aC_condF ?_ ?_; (· simp (disch := first | omega | (simp only [go_sem]; omega)) only [go_sem, get_miss, seval, reduceCtorEq]))
        | (refine aC_condP (by simp (disch := first | omega | (simp only [go_sem]; omega)) only [go_sem, get_miss, seval, reduceCtorEq] <;> with_reducible rfl) ?_ ?_ <;> (intro h; first | (exfalso; omega) | skip))
        | fail)
      all_goals try (first | exact True.intro | exact not_false | omega)
      all_goals try (simp (disch := first | omega | (simp only [go_sem]; omega)) only [go_sem, get_miss, seval, reduceCtorEq] <;> first | exact True.intro | omega)
      all_goals exact ⟨k + 1, by omega, Sub.of_all (by simp [Fr.get, hms]), by simp [hms], by omega⟩
    · obtain ⟨b, M, hM, hu⟩ := u_rows k hk6
      have hx := law_wrong _ 0 3 (u_long k (by omega))
      have hul := length_cvs M
      rw [hM] at hul
      generalize cvs M = V at *
      generalize many k = W at *
      repeat' (first
        | (apply aL_imm; (case hg => (simp (disch := first | omega | (simp only [go_sem]; omega)) only [go_sem, get_miss, seval, reduceCtorEq, hul])); (case hi => (simp (disch := first | omega | (simp only [go_sem]; omega)) only [go_sem, get_miss, seval, reduceCtorEq, hul] <;> with_reducible rfl)); (case hd => (rfl)); (case hj => (simp (disch := first | omega | (simp only [go_sem]; omega)) only [go_sem, get_miss, seval, reduceCtorEq, hul] <;> with_reducible rfl)); (case hb => (exact ⟨by decide +kernel, by decide +kernel, by decide +kernel⟩)); (case hf => (apply Eq.trans (congrArg (fun z => Fr.put _ _ (AVal.sl _ false z .full)) (hcr)); (simp only [go_sem] <;> with_reducible rfl))))
        | refine aC_seq ?_
        | refine aC_reg rfl ?_
        | refine aC_block ?_
        | refine aC_skip ?_
        | refine aC_loop ?_
        | refine aC_scope ?_
        | refine scopeQ_normal ?_
        | refine scopeQ_exit ?_
        | refine scopeQ_ret ?_
        | refine aC_exit ?_
        | refine aC_ret ?_
        | refine thenQ_normal ?_
        | refine blockQ_normal ?_
        | refine thenQ_ret ?_
        | refine blockQ_ret ?_
        | refine thenQ_exit ?_
        | refine blockQ_hit ?_
        | refine blockQ_miss rfl ?_
        | refine aL_nil ?_
        | (apply aL_step; (· exact True.intro); (· simp (disch := first | omega | (simp only [go_sem]; omega)) only [go_sem, get_miss, seval, reduceCtorEq, hul]); (· simp (disch := first | omega | (simp only [go_sem]; omega)) only [go_sem, get_miss, seval, reduceCtorEq, hul] <;> with_reducible rfl); (· simp only [go_sem] <;> with_reducible rfl))
        | (refine aL_skip ?_ (by simp only [go_sem] <;> with_reducible rfl) ?_; (· simp (disch := first | omega | (simp only [go_sem]; omega)) only [go_sem, get_miss, seval, reduceCtorEq, hul]))
        | (apply aL_guardN; (· simp (disch := first | omega | (simp only [go_sem]; omega)) only [go_sem, get_miss, seval, reduceCtorEq, hul] <;> with_reducible rfl); all_goals (intro h; first | (exfalso; omega) | (simp only [h, decide_true, decide_false, not_true, not_false_iff])))
        | (apply aL_guardP; (· simp (disch := first | omega | (simp only [go_sem]; omega)) only [go_sem, get_miss, seval, reduceCtorEq, hul] <;> with_reducible rfl); all_goals (intro h; first | (exfalso; omega) | (simp only [h, decide_true, decide_false, not_true, not_false_iff])))
        | (refine aC_condT ?_ ?_; (· simp (disch := first | omega | (simp only [go_sem]; omega)) only [go_sem, get_miss, seval, reduceCtorEq, hul]))
        | (refine aC_condF ?_ ?_; (· simp (disch := first | omega | (simp only [go_sem]; omega)) only [go_sem, get_miss, seval, reduceCtorEq, hul]))
        | (refine aC_condP (by simp (disch := first | omega | (simp only [go_sem]; omega)) only [go_sem, get_miss, seval, reduceCtorEq, hul] <;> with_reducible rfl) ?_ ?_ <;> (intro h; first | (exfalso; omega) | skip))
        | (apply aL_pure cxG (hu); (case hg => (simp (disch := first | omega | (simp only [go_sem]; omega)) only [go_sem, get_miss, seval, reduceCtorEq, hul])); (case hx => (simp (disch := first | omega | (simp only [go_sem]; omega)) only [go_sem, get_miss, seval, reduceCtorEq, hul] <;> with_reducible rfl)); (case ha => (simp (disch := first | omega | (simp only [go_sem]; omega)) only [go_sem, get_miss, seval, reduceCtorEq, hul] <;> with_reducible rfl)); (case he => (simp only [go_sem] <;> with_reducible rfl)); (case hcl => (simp)); (case hf => (simp only [go_sem] <;> with_reducible rfl)))
        | (apply aL_pure cxG (hll); (case hg => (simp (disch := first | omega | (simp only [go_sem]; omega)) only [go_sem, get_miss, seval, reduceCtorEq, hul])); (case hx => (simp (disch := first | omega | (simp only [go_sem]; omega)) only [go_sem, get_miss, seval, reduceCtorEq, hul] <;> with_reducible rfl)); (case ha => (simp (disch := first | omega | (simp only [go_sem]; omega)) only [go_sem, get_miss, seval, reduceCtorEq, hul] <;> with_reducible rfl)); (case he => (simp only [go_sem] <;> with_reducible rfl)); (case hcl => (simp)); (case hf => (simp only [go_sem] <;> with_reducible rfl)))
        | (apply aL_pure cxG (u_none); (case hg => (simp (disch := first | omega | (simp only [go_sem]; omega)) only [go_sem, get_miss, seval, reduceCtorEq, hul])); (case hx => (simp (disch := first | omega | (simp only [go_sem]; omega)) only [go_sem, get_miss, seval, reduceCtorEq, hul] <;> with_reducible rfl)); (case ha => (simp (disch := first | omega | (simp only [go_sem]; omega)) only [go_sem, get_miss, seval, reduceCtorEq, hul] <;> with_reducible rfl)); (case he => (simp only [go_sem] <;> with_reducible rfl)); (case hcl => (simp)); (case hf => (simp only [go_sem] <;> with_reducible rfl)))
        | (apply aL_pure cxG (list_none); (case hg => (simp (disch := first | omega | (simp only [go_sem]; omega)) only [go_sem, get_miss, seval, reduceCtorEq, hul])); (case hx => (simp (disch := first | omega | (simp only [go_sem]; omega)) only [go_sem, get_miss, seval, reduceCtorEq, hul] <;> with_reducible rfl)); (case ha => (simp (disch := first | omega | (simp only [go_sem]; omega)) only [go_sem, get_miss, seval, reduceCtorEq, hul] <;> with_reducible rfl)); (case he => (simp only [go_sem] <;> with_reducible rfl)); (case hcl => (simp)); (case hf => (simp only [go_sem] <;> with_reducible rfl)))
        | (apply aL_pure cxG (hn0); (case hg => (simp (disch := first | omega | (simp only [go_sem]; omega)) only [go_sem, get_miss, seval, reduceCtorEq, hul])); (case hx => (simp (disch := first | omega | (simp only [go_sem]; omega)) only [go_sem, get_miss, seval, reduceCtorEq, hul] <;> with_reducible rfl)); (case ha => (simp (disch := first | omega | (simp only [go_sem]; omega)) only [go_sem, get_miss, seval, reduceCtorEq, hul] <;> with_reducible rfl)); (case he => (simp only [go_sem] <;> with_reducible rfl)); (case hcl => (simp)); (case hf => (simp only [go_sem] <;> with_reducible rfl)))
        | (apply aL_pure cxG (hn3); (case hg => (simp (disch := first | omega | (simp only [go_sem]; omega)) only [go_sem, get_miss, seval, reduceCtorEq, hul])); (case hx => (simp (disch := first | omega | (simp only [go_sem]; omega)) only [go_sem, get_miss, seval, reduceCtorEq, hul] <;> with_reducible rfl)); (case ha => (simp (disch := first | omega | (simp only [go_sem]; omega)) only [go_sem, get_miss, seval, reduceCtorEq, hul] <;> with_reducible rfl)); (case he => (simp only [go_sem] <;> with_reducible rfl)); (case hcl => (simp)); (case hf => (simp only [go_sem] <;> with_reducible rfl)))
        | (apply aL_pure cxG (hx); (case hg => (simp (disch := first | omega | (simp only [go_sem]; omega)) only [go_sem, get_miss, seval, reduceCtorEq, hul])); (case hx => (simp (disch := first | omega | (simp only [go_sem]; omega)) only [go_sem, get_miss, seval, reduceCtorEq, hul] <;> with_reducible rfl)); (case ha => (simp (disch := first | omega | (simp only [go_sem]; omega)) only [go_sem, get_miss, seval, reduceCtorEq, hul] <;> with_reducible rfl)); (case he => (simp only [go_sem] <;> with_reducible rfl)); (case hcl => (simp)); (case hf => (simp only [go_sem] <;> with_reducible rfl)))
        | (apply aL_pure cxG (w1); (case hg => (simp (disch := first | omega | (simp only [go_sem]; omega)) only [go_sem, get_miss, seval, reduceCtorEq, hul])); (case hx => (simp (disch := first | omega | (simp only [go_sem]; omega)) only [go_sem, get_miss, seval, reduceCtorEq, hul] <;> with_reducible rfl)); (case ha => (simp (disch := first | omega | (simp only [go_sem]; omega)) only [go_sem, get_miss, seval, reduceCtorEq, hul] <;> with_reducible rfl)); (case he => (simp only [go_sem] <;> with_reducible rfl)); (case hcl => (simp)); (case hf => (simp only [go_sem] <;> with_reducible rfl)))
        | (apply aL_pure cxG (w2); (case hg => (simp (disch := first | omega | (simp only [go_sem]; omega)) only [go_sem, get_miss, seval, reduceCtorEq, hul])); (case hx => (simp (disch := first | omega | (simp only [go_sem]; omega)) only [go_sem, get_miss, seval, reduceCtorEq, hul] <;> with_reducible rfl)); (case ha => (simp (disch := first | omega | (simp only [go_sem]; omega)) only [go_sem, get_miss, seval, reduceCtorEq, hul] <;> with_reducible rfl)); (case he => (simp only [go_sem] <;> with_reducible rfl)); (case hcl => (simp)); (case hf => (simp only [go_sem] <;> with_reducible rfl)))
        | (apply aL_pure cxG (w3); (case hg => (simp (disch := first | omega | (simp only [go_sem]; omega)) only [go_sem, get_miss, seval, reduceCtorEq, hul])); (case hx => (simp (disch := first | omega | (simp only [go_sem]; omega)) only [go_sem, get_miss, seval, reduceCtorEq, hul] <;> with_reducible rfl)); (case ha => (simp (disch := first | omega | (simp only [go_sem]; omega)) only [go_sem, get_miss, seval, reduceCtorEq, hul] <;> with_reducible rfl)); (case he => (simp only [go_sem] <;> with_reducible rfl)); (case hcl => (simp)); (case hf => (simp only [go_sem] <;> with_reducible rfl)))
        | (apply aL_pure cxG (w4); (case hg => (simp (disch := first | omega | (simp only [go_sem]; omega)) only [go_sem, get_miss, seval, reduceCtorEq, hul])); (case hx => (simp (disch := first | omega | (simp only [go_sem]; omega)) only [go_sem, get_miss, seval, reduceCtorEq, hul] <;> with_reducible rfl)); (case ha => (simp (disch := first | omega | (simp only [go_sem]; omega)) only [go_sem, get_miss, seval, reduceCtorEq, hul] <;> with_reducible rfl)); (case he => (simp only [go_sem] <;> with_reducible rfl)); (case hcl => (simp)); (case hf => (simp only [go_sem] <;> with_reducible rfl)))
        | (apply aL_pure cxG (hk); (case hg => (simp (disch := first | omega | (simp only [go_sem]; omega)) only [go_sem, get_miss, seval, reduceCtorEq, hul])); (case hx => (simp (disch := first | omega | (simp only [go_sem]; omega)) only [go_sem, get_miss, seval, reduceCtorEq, hul] <;> with_reducible rfl)); (case ha => (simp (disch := first | omega | (simp only [go_sem]; omega)) only [go_sem, get_miss, seval, reduceCtorEq, hul] <;> with_reducible rfl)); (case he => (simp only [go_sem] <;> with_reducible rfl)); (case hcl => (simp)); (case hf => (simp only [go_sem] <;> with_reducible rfl)))
        | fail)
      all_goals clear hk hll hcr hn0 hn3 w1 w2 w3 w4 hu
      all_goals first | exact True.intro | omega | skip
      all_goals try (simp (disch := first | omega | (simp only [go_sem]; omega)) only [go_sem, get_miss, seval, reduceCtorEq])
      all_goals try simp
  all_goals exact True.intro
end
end Go.Am
end
