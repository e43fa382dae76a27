/- What calls are told as is read as they are: plain laws; the law CallBack. -/
import Derived.Test.YtikookfljnilpaaDoorL24
import Derived.Test.YtikookfljnilpaaDoorL05
set_option linter.unusedVariables false
set_option linter.unusedSimpArgs false
namespace Go.Am
open Go Go.Proofs
set_option linter.unusedSimpArgs false
set_option linter.unusedVariables false
set_option maxHeartbeats 8000000
set_option maxRecDepth 100000
section
attribute [local irreducible] aC aL thenQ blockQ scopeQ ALoop AWp

theorem getl_putl (n : Nat) : ∀ k : Nat, getl (putl n k) = n % 256 ^ k
  | 0 => by simp [putl, getl, Nat.mod_one]
  | k + 1 => by
    rw [putl_succ, getl_append, getl_putl n k, putl_length, Nat.mod_pow_succ]
    simp only [getl, Nat.mul_zero, Nat.add_zero]
    rw [ofNat_toNat8 _ (Nat.mod_lt _ (by decide))]
theorem chunk : ∀ (ys : List Nat) (i : Nat) (h : i < ys.length), ((ys.flatMap fun x => putl x 8).take (8 * i + 8)).drop (8 * i) = putl ys[i] 8
  | y :: ys, 0, _ => by
    rw [List.flatMap_cons, List.take_append_of_le_length (by simp)]
    simp
    exact List.take_of_length_le (by simp)
  | y :: ys, i + 1, h => by
    have ih := chunk ys i (by simpa using h)
    rw [List.flatMap_cons, List.take_append, List.drop_append, List.drop_eq_nil_of_le (by rw [List.length_take, putl_length]; omega), List.nil_append]
    have e1 : 8 * (i + 1) + 8 - (putl y 8).length = 8 * i + 8 := by rw [putl_length]; omega
    have e2 : 8 * (i + 1) - ((putl y 8).take (8 * (i + 1) + 8)).length = 8 * i := by rw [List.length_take, putl_length]; omega
    rw [e1, e2, ih]
    simp
theorem wd_chunk (o : Nat) (xs : List Nat) (i : Nat) (h : i < (o :: xs).length) (hw : (o :: xs)[i] < 18446744073709551616) : wdB (cbyX o xs) i = (o :: xs)[i] := by
  have e : cbyX o xs = (o :: xs).flatMap fun x => putl x 8 := by unfold cbyX; rw [List.flatMap_cons]
  unfold wdB
  rw [e, chunk _ i h, getl_putl]
  exact Nat.mod_eq_of_lt (by have e8 : (256 : Nat) ^ 8 = 18446744073709551616 := by decide
                             omega)
theorem wds_back (o : Nat) (xs : List Nat) (hx : xs.length = 6) (hw : ∀ x ∈ xs, x < 18446744073709551616) : wds (cbyX o xs) 6 = xs := by
  apply List.ext_getElem
  · rw [wds_len _ 6 (by decide), hx]
  · intro i h1 h2
    have : (wds (cbyX o xs) 6)[i] = wdB (cbyX o xs) (i + 1) := by
      simp only [wds]
      rw [List.getElem_append_left (by simp; omega)]
      simp
    rw [this, wd_chunk o xs (i + 1) (by simp; omega) (by simpa using hw _ (List.getElem_mem h2))]
    simp
theorem of_back {op : Int} {xs : List Nat} (hm : MayC op xs) (hx : xs.length = 6) (hw : ∀ x ∈ xs, x < 18446744073709551616) (nl : Bool) : APure cx 27 [.sl 1 nl (bl (cbyX op.toNat xs)) .any] (.tup [.agg (.int .i64 op :: wl xs), .int .i64 0]) := by
  have hl := cbyX_len op.toNat xs
  have h := call_Of nl (cbyX op.toNat xs) (by omega)
  have h0 : wdB (cbyX op.toNat xs) 0 = op.toNat := wd_chunk op.toNat xs 0 (by simp) (by have := hm.1; simp; omega)
  have h1 := wds_back op.toNat xs hx hw
  have ho : ((op.toNat : Nat) : Int) = op := Int.toNat_of_nonneg (by have := hm.1; omega)
  have hok : OfOk (cbyX op.toNat xs) := ⟨by omega, by rw [h0, h1, ho]; exact hm⟩
  rw [if_pos hok, h0, h1, ho] at h
  exact h
theorem untext_back {op : Int} {xs : List Nat} (hm : MayC op xs) (hx : xs.length = 6) (hw : ∀ x ∈ xs, x < 18446744073709551616) : APure cx 29 [.str (ctx op xs)] (.tup [.agg (.int .i64 op :: wl xs), .int .i64 0]) :=
  call_Untext _ (by have := ctx_len (op := op) hw; omega) _ (.inl ⟨op, xs, ⟨hm, hx, hw, rfl⟩, rfl⟩)

theorem ctx_no10 {op : Int} {xs : List Nat} (hm : MayC op xs) : (10 : UInt8) ∉ ctx op xs := by
  unfold ctx ctxK
  intro h
  rcases List.mem_append.1 h with h | h
  · exact (cnm_in hm.1).2.2.2 h
  · obtain ⟨x, _, hx⟩ := List.mem_flatMap.1 h
    rcases List.mem_cons.1 hx with hx | hx
    · exact absurd hx (by decide)
    · exact dec_no x 10 (.inl (by decide)) hx
theorem listT_parts : ∀ (l : List Ca), (∀ c ∈ l, MayC c.1 c.2) → parts (listT l) [10] = (l.map fun c => ctx c.1 c.2) ++ [[]] ∧ listT l = jn (l.map fun c => ctx c.1 c.2) []
  | [], _ => ⟨parts_miss 10 [] (by simp), rfl⟩
  | c :: l, h => by
    have ih := listT_parts l fun x hx => h x (List.mem_cons_of_mem _ hx)
    have e : listT (c :: l) = ctx c.1 c.2 ++ 10 :: listT l := by simp [listT]
    rw [e, parts_hit 10 _ _ (ctx_no10 (h c (List.mem_cons_self ..))), ih.1, List.map_cons, jn_cons, ← ih.2]
    exact ⟨rfl, rfl⟩
theorem list_back (l : List Ca) (hw : ∀ c ∈ l, WfC c) (hm : ∀ c ∈ l, MayC c.1 c.2) (hl : l.length ≤ 600) : APure cx 32 [.str (listT l)] (.tup [.sl 7 l.isEmpty (cvs l) .any, .int .i64 0, .int .i64 0]) := by
  obtain ⟨h1, h2⟩ := listT_parts l hm
  have hlen := listT_len l hw
  have hmap : (l.map fun c => ctx c.1 c.2).map callL = l := by
    rw [List.map_map]
    have : ∀ c ∈ l, (callL ∘ fun c : Ca => ctx c.1 c.2) c = id c := fun c hc => callL_eq ⟨hm c hc, (hw c hc).1, (hw c hc).2, rfl⟩
    rw [List.map_congr_left this, List.map_id]
  have h := call_Unlist (listT l) (l.map fun c => ctx c.1 c.2) [] (by omega) h1 (fun x hx => by
    obtain ⟨c, hc, rfl⟩ := List.mem_map.1 hx
    exact ctx_no10 (hm c hc)) (by simp) h2 _ (.inr (.inl ⟨fun h => by
      rcases h with h | ⟨_, h⟩
      · rw [List.length_map] at h; omega
      · exact h rfl, fun x hx => by
      obtain ⟨c, hc, rfl⟩ := List.mem_map.1 hx
      exact ⟨c.1, c.2, hm c hc, (hw c hc).1, (hw c hc).2, rfl⟩, rfl, rfl⟩))
  rw [hmap] at h
  exact h

theorem law_back (op : Int) (xs : List Nat) (nl : Bool) (l : List Ca) (s : List UInt8) (hx : xs.length = 6) (hw : ∀ x ∈ xs, x < 18446744073709551616) (hlw : ∀ c ∈ l, WfC c) (hll : l.length ≤ 9223372036854775807) (hsl : s.length ≤ 9223372036854775807) :
    APure cx 9 [.agg (.int .i64 op :: wl xs), .sl 7 nl (cvs l) .any, .str s] (.bool true) := by
  have hk := call_known
  have n0 := law_num 0
  have n2 := law_num 2
  have q1 := aeqs_wl (a := xs) (b := xs) rfl
  rw [decide_eq_true rfl] at q1
  have q3 := skbs_wl (a := xs) (b := [0, 0, 0, 0, 0, 0]) hx
  -- the call
  have hb := call_Bytes op xs hx hw
  have ht := call_Text op xs hx hw
  have hcall : (∃ B X, APure cx 20 [.agg (.int .i64 op :: wl xs)] (.tup [.sl 1 false (bl B) .any, .int .i64 0]) ∧ APure cx 21 [.agg (.int .i64 op :: wl xs)] (.tup [.str X, .int .i64 0]) ∧
      APure cx 27 [.sl 1 false (bl B) .any] (.tup [.agg (.int .i64 op :: wl xs), .int .i64 0]) ∧ APure cx 29 [.str X] (.tup [.agg (.int .i64 op :: wl xs), .int .i64 0])) ∨
      (APure cx 20 [.agg (.int .i64 op :: wl xs)] (.tup [.sl 1 true [] .any, .int .i64 2]) ∧ APure cx 21 [.agg (.int .i64 op :: wl xs)] (.tup [.str [], .int .i64 2])) := by
    by_cases h : MayC op xs
    · rw [if_pos h] at hb ht
      exact .inl ⟨_, _, hb, ht, of_back h hx hw false, untext_back h hx hw⟩
    · rw [if_neg h] at hb ht
      exact .inr ⟨hb, ht⟩
  clear hb ht
  -- the text
  have htext : 20000 < s.length ∨ (s.length ≤ 20000 ∧ ((∃ n e : Int, e ≠ 0 ∧ APure cx 32 [.str s] (.tup [.sl 1 true [] .any, .int .i64 n, .int .i64 e])) ∨
      (∃ (b : Bool) (M : List Ca), M.length ≤ 65536 ∧ APure cx 32 [.str s] (.tup [.sl 7 b (cvs M) .any, .int .i64 0, .int .i64 0]) ∧ APure cx 31 [.sl 7 b (cvs M) .any] (.tup [.str s, .int .i64 0])))) := by
    by_cases h : s.length ≤ 20000
    · refine .inr ⟨h, ?_⟩
      obtain ⟨n, e, g⟩ := both_Unlist s (by omega)
      rcases g with ⟨g1, _, g3⟩ | ⟨b, M, hM, hc, hT, rfl, rfl, g1, _⟩
      · exact .inl ⟨n, e, g3, g1⟩
      · have hL := call_List b M (fun c h => (hc c h).1) (by omega)
        rw [if_neg (by omega), if_pos (fun c h => (hc c h).2), hT] at hL
        exact .inr ⟨b, M, hM, g1, hL⟩
    · exact .inl (by omega)
  -- the list
  have hlist : 600 < l.length ∨ (l.length ≤ 600 ∧ (APure cx 31 [.sl 7 nl (cvs l) .any] (.tup [.str [], .int .i64 2]) ∨
      (∃ T, APure cx 31 [.sl 7 nl (cvs l) .any] (.tup [.str T, .int .i64 0]) ∧ APure cx 32 [.str T] (.tup [.sl 7 l.isEmpty (cvs l) .any, .int .i64 0, .int .i64 0])))) := by
    by_cases h : l.length ≤ 600
    · refine .inr ⟨h, ?_⟩
      have hL := call_List nl l hlw (by omega)
      rw [if_neg (by omega)] at hL
      by_cases hm : ∀ c ∈ l, MayC c.1 c.2
      · rw [if_pos hm] at hL
        exact .inr ⟨_, hL, list_back l hlw hm h⟩
      · rw [if_neg hm] at hL
        exact .inl hL
    · exact .inl (by omega)
  have hsm := fun (h : l.length ≤ 600) => law_same l.isEmpty nl l (fun c hc => (hlw c hc).1) (by omega)
  clear hlw
  rcases hcall with ⟨B, X, c1, c2, c3, c4⟩ | ⟨c1, c2⟩
  case' inr => have c3 : True := trivial
  case' inr => have c4 : True := trivial
  all_goals
    rcases htext with t1 | ⟨t1, ⟨tn, te, t2, t3⟩ | ⟨tb, M, t2, t3, t4⟩⟩
  all_goals
    rcases hlist with l1 | ⟨l1, l2 | ⟨T, l2, l3⟩⟩
  all_goals try have nte := law_num te
  all_goals try have hsm := hsm l1
  all_goals
  refine pure_fn cxOk Tryd.func9 (by kernel_rfl) (fun _ => false) (fun _ => none) (by kernel_rfl) (Nat.le_of_ble_eq_true (by kernel_rfl)) ?_
  dsimp only [LB, Tryd.f9, lite, nextOf, Option.isNone, Bool.not_true, Bool.not_false, Bool.and_true, Bool.true_and, Bool.false_and, Bool.and_self, Bool.false_eq_true, if_false, if_true, ↓reduceIte, liteO, List.map, Option.map, frame0, List.zipIdx, Nat.reduceAdd]
  try simp only [List.getElem?_toArray, List.getElem?_cons_succ, List.getElem?_cons_zero, Option.bind_some]
  all_goals
  repeat' (first
    | refine aC_seq ?_
    | refine aC_reg rfl ?_
    | refine aC_block ?_
    | refine aC_skip ?_
    | refine aC_loop ?_
    | refine aC_scope ?_
    | refine scopeQ_normal ?_
    | refine scopeQ_exit ?_
    | refine scopeQ_ret ?_
    | refine aC_exit ?_
    | refine aC_ret ?_
    | refine thenQ_normal ?_
    | refine blockQ_normal ?_
    | refine thenQ_ret ?_
    | refine blockQ_ret ?_
    | refine thenQ_exit ?_
    | refine blockQ_hit ?_
    | refine blockQ_miss rfl ?_
    | refine aL_nil ?_
    | (apply aL_step; (· exact True.intro); (· simp (disch := first | omega | (simp only [go_sem]; omega)) only [go_sem, get_miss, seval, reduceCtorEq, eq_self_iff_true, decide_true, decide_false, Bool.not_true, Bool.not_false, beq_self_eq_true, bne_self_eq_false, not_true_eq_false, not_false_eq_true, Int.reduceEq, Int.reduceBNe, Int.reduceBEq, aeqs_cons, aeq_int, q1, Bool.and_self, Bool.and_true]); (· simp (disch := first | omega | (simp only [go_sem]; omega)) only [go_sem, get_miss, seval, reduceCtorEq, eq_self_iff_true, decide_true, decide_false, Bool.not_true, Bool.not_false, beq_self_eq_true, bne_self_eq_false, not_true_eq_false, not_false_eq_true, Int.reduceEq, Int.reduceBNe, Int.reduceBEq, aeqs_cons, aeq_int, q1, Bool.and_self, Bool.and_true] <;> with_reducible rfl); (· simp only [go_sem] <;> with_reducible rfl))
    | (refine aL_skip ?_ (by simp only [go_sem] <;> with_reducible rfl) ?_; (· simp (disch := first | omega | (simp only [go_sem]; omega)) only [go_sem, get_miss, seval, reduceCtorEq, eq_self_iff_true, decide_true, decide_false, Bool.not_true, Bool.not_false, beq_self_eq_true, bne_self_eq_false, not_true_eq_false, not_false_eq_true, Int.reduceEq, Int.reduceBNe, Int.reduceBEq, aeqs_cons, aeq_int, q1, Bool.and_self, Bool.and_true]))
    | (apply aL_guardN; (· simp (disch := first | omega | (simp only [go_sem]; omega)) only [go_sem, get_miss, seval, reduceCtorEq, eq_self_iff_true, decide_true, decide_false, Bool.not_true, Bool.not_false, beq_self_eq_true, bne_self_eq_false, not_true_eq_false, not_false_eq_true, Int.reduceEq, Int.reduceBNe, Int.reduceBEq, aeqs_cons, aeq_int, q1, Bool.and_self, Bool.and_true] <;> with_reducible rfl); all_goals (intro h; first | (exfalso; omega) | (simp only [h, decide_true, decide_false, not_true, not_false_iff])))
    | (apply aL_guardP; (· simp (disch := first | omega | (simp only [go_sem]; omega)) only [go_sem, get_miss, seval, reduceCtorEq, eq_self_iff_true, decide_true, decide_false, Bool.not_true, Bool.not_false, beq_self_eq_true, bne_self_eq_false, not_true_eq_false, not_false_eq_true, Int.reduceEq, Int.reduceBNe, Int.reduceBEq, aeqs_cons, aeq_int, q1, Bool.and_self, Bool.and_true] <;> with_reducible rfl); all_goals (intro h; first | (exfalso; omega) | (simp only [h, decide_true, decide_false, not_true, not_false_iff])))
    | (refine aC_condT ?_ ?_; (· simp (disch := first | omega | (simp only [go_sem]; omega)) only [go_sem, get_miss, seval, reduceCtorEq, eq_self_iff_true, decide_true, decide_false, Bool.not_true, Bool.not_false, beq_self_eq_true, bne_self_eq_false, not_true_eq_false, not_false_eq_true, Int.reduceEq, Int.reduceBNe, Int.reduceBEq, aeqs_cons, aeq_int, q1, Bool.and_self, Bool.and_true]))
    | (refine aC_condF ?_ ?_; (· simp (disch := first | omega | (simp only [go_sem]; omega)) only [go_sem, get_miss, seval, reduceCtorEq, eq_self_iff_true, decide_true, decide_false, Bool.not_true, Bool.not_false, beq_self_eq_true, bne_self_eq_false, not_true_eq_false, not_false_eq_true, Int.reduceEq, Int.reduceBNe, Int.reduceBEq, aeqs_cons, aeq_int, q1, Bool.and_self, Bool.and_true]))
    | (refine aC_condP (by simp (disch := first | omega | (simp only [go_sem]; omega)) only [go_sem, get_miss, seval, reduceCtorEq, eq_self_iff_true, decide_true, decide_false, Bool.not_true, Bool.not_false, beq_self_eq_true, bne_self_eq_false, not_true_eq_false, not_false_eq_true, Int.reduceEq, Int.reduceBNe, Int.reduceBEq, aeqs_cons, aeq_int, q1, Bool.and_self, Bool.and_true] <;> with_reducible rfl) ?_ ?_ <;> (intro h; first | (exfalso; omega) | skip))
    | (apply aL_pure cxG (hk); (case hg => (simp (disch := first | omega | (simp only [go_sem]; omega)) only [go_sem, get_miss, seval, reduceCtorEq, eq_self_iff_true, decide_true, decide_false, Bool.not_true, Bool.not_false, beq_self_eq_true, bne_self_eq_false, not_true_eq_false, not_false_eq_true, Int.reduceEq, Int.reduceBNe, Int.reduceBEq, aeqs_cons, aeq_int, q1, Bool.and_self, Bool.and_true])); (case hx => (simp (disch := first | omega | (simp only [go_sem]; omega)) only [go_sem, get_miss, seval, reduceCtorEq, eq_self_iff_true, decide_true, decide_false, Bool.not_true, Bool.not_false, beq_self_eq_true, bne_self_eq_false, not_true_eq_false, not_false_eq_true, Int.reduceEq, Int.reduceBNe, Int.reduceBEq, aeqs_cons, aeq_int, q1, Bool.and_self, Bool.and_true] <;> with_reducible rfl)); (case ha => (simp (disch := first | omega | (simp only [go_sem]; omega)) only [go_sem, get_miss, seval, reduceCtorEq, eq_self_iff_true, decide_true, decide_false, Bool.not_true, Bool.not_false, beq_self_eq_true, bne_self_eq_false, not_true_eq_false, not_false_eq_true, Int.reduceEq, Int.reduceBNe, Int.reduceBEq, aeqs_cons, aeq_int, q1, Bool.and_self, Bool.and_true] <;> with_reducible rfl)); (case he => (simp only [go_sem] <;> with_reducible rfl)); (case hcl => (simp)); (case hf => (simp only [go_sem] <;> with_reducible rfl)))
    | (apply aL_pure cxG (c1); (case hg => (simp (disch := first | omega | (simp only [go_sem]; omega)) only [go_sem, get_miss, seval, reduceCtorEq, eq_self_iff_true, decide_true, decide_false, Bool.not_true, Bool.not_false, beq_self_eq_true, bne_self_eq_false, not_true_eq_false, not_false_eq_true, Int.reduceEq, Int.reduceBNe, Int.reduceBEq, aeqs_cons, aeq_int, q1, Bool.and_self, Bool.and_true])); (case hx => (simp (disch := first | omega | (simp only [go_sem]; omega)) only [go_sem, get_miss, seval, reduceCtorEq, eq_self_iff_true, decide_true, decide_false, Bool.not_true, Bool.not_false, beq_self_eq_true, bne_self_eq_false, not_true_eq_false, not_false_eq_true, Int.reduceEq, Int.reduceBNe, Int.reduceBEq, aeqs_cons, aeq_int, q1, Bool.and_self, Bool.and_true] <;> with_reducible rfl)); (case ha => (simp (disch := first | omega | (simp only [go_sem]; omega)) only [go_sem, get_miss, seval, reduceCtorEq, eq_self_iff_true, decide_true, decide_false, Bool.not_true, Bool.not_false, beq_self_eq_true, bne_self_eq_false, not_true_eq_false, not_false_eq_true, Int.reduceEq, Int.reduceBNe, Int.reduceBEq, aeqs_cons, aeq_int, q1, Bool.and_self, Bool.and_true] <;> with_reducible rfl)); (case he => (simp only [go_sem] <;> with_reducible rfl)); (case hcl => (simp)); (case hf => (simp only [go_sem] <;> with_reducible rfl)))
    | (apply aL_pure cxG (c2); (case hg => (simp (disch := first | omega | (simp only [go_sem]; omega)) only [go_sem, get_miss, seval, reduceCtorEq, eq_self_iff_true, decide_true, decide_false, Bool.not_true, Bool.not_false, beq_self_eq_true, bne_self_eq_false, not_true_eq_false, not_false_eq_true, Int.reduceEq, Int.reduceBNe, Int.reduceBEq, aeqs_cons, aeq_int, q1, Bool.and_self, Bool.and_true])); (case hx => (simp (disch := first | omega | (simp only [go_sem]; omega)) only [go_sem, get_miss, seval, reduceCtorEq, eq_self_iff_true, decide_true, decide_false, Bool.not_true, Bool.not_false, beq_self_eq_true, bne_self_eq_false, not_true_eq_false, not_false_eq_true, Int.reduceEq, Int.reduceBNe, Int.reduceBEq, aeqs_cons, aeq_int, q1, Bool.and_self, Bool.and_true] <;> with_reducible rfl)); (case ha => (simp (disch := first | omega | (simp only [go_sem]; omega)) only [go_sem, get_miss, seval, reduceCtorEq, eq_self_iff_true, decide_true, decide_false, Bool.not_true, Bool.not_false, beq_self_eq_true, bne_self_eq_false, not_true_eq_false, not_false_eq_true, Int.reduceEq, Int.reduceBNe, Int.reduceBEq, aeqs_cons, aeq_int, q1, Bool.and_self, Bool.and_true] <;> with_reducible rfl)); (case he => (simp only [go_sem] <;> with_reducible rfl)); (case hcl => (simp)); (case hf => (simp only [go_sem] <;> with_reducible rfl)))
    | (apply aL_pure cxG (n0); (case hg => (simp (disch := first | omega | (simp only [go_sem]; omega)) only [go_sem, get_miss, seval, reduceCtorEq, eq_self_iff_true, decide_true, decide_false, Bool.not_true, Bool.not_false, beq_self_eq_true, bne_self_eq_false, not_true_eq_false, not_false_eq_true, Int.reduceEq, Int.reduceBNe, Int.reduceBEq, aeqs_cons, aeq_int, q1, Bool.and_self, Bool.and_true])); (case hx => (simp (disch := first | omega | (simp only [go_sem]; omega)) only [go_sem, get_miss, seval, reduceCtorEq, eq_self_iff_true, decide_true, decide_false, Bool.not_true, Bool.not_false, beq_self_eq_true, bne_self_eq_false, not_true_eq_false, not_false_eq_true, Int.reduceEq, Int.reduceBNe, Int.reduceBEq, aeqs_cons, aeq_int, q1, Bool.and_self, Bool.and_true] <;> with_reducible rfl)); (case ha => (simp (disch := first | omega | (simp only [go_sem]; omega)) only [go_sem, get_miss, seval, reduceCtorEq, eq_self_iff_true, decide_true, decide_false, Bool.not_true, Bool.not_false, beq_self_eq_true, bne_self_eq_false, not_true_eq_false, not_false_eq_true, Int.reduceEq, Int.reduceBNe, Int.reduceBEq, aeqs_cons, aeq_int, q1, Bool.and_self, Bool.and_true] <;> with_reducible rfl)); (case he => (simp only [go_sem] <;> with_reducible rfl)); (case hcl => (simp)); (case hf => (simp only [go_sem] <;> with_reducible rfl)))
    | (apply aL_pure cxG (n2); (case hg => (simp (disch := first | omega | (simp only [go_sem]; omega)) only [go_sem, get_miss, seval, reduceCtorEq, eq_self_iff_true, decide_true, decide_false, Bool.not_true, Bool.not_false, beq_self_eq_true, bne_self_eq_false, not_true_eq_false, not_false_eq_true, Int.reduceEq, Int.reduceBNe, Int.reduceBEq, aeqs_cons, aeq_int, q1, Bool.and_self, Bool.and_true])); (case hx => (simp (disch := first | omega | (simp only [go_sem]; omega)) only [go_sem, get_miss, seval, reduceCtorEq, eq_self_iff_true, decide_true, decide_false, Bool.not_true, Bool.not_false, beq_self_eq_true, bne_self_eq_false, not_true_eq_false, not_false_eq_true, Int.reduceEq, Int.reduceBNe, Int.reduceBEq, aeqs_cons, aeq_int, q1, Bool.and_self, Bool.and_true] <;> with_reducible rfl)); (case ha => (simp (disch := first | omega | (simp only [go_sem]; omega)) only [go_sem, get_miss, seval, reduceCtorEq, eq_self_iff_true, decide_true, decide_false, Bool.not_true, Bool.not_false, beq_self_eq_true, bne_self_eq_false, not_true_eq_false, not_false_eq_true, Int.reduceEq, Int.reduceBNe, Int.reduceBEq, aeqs_cons, aeq_int, q1, Bool.and_self, Bool.and_true] <;> with_reducible rfl)); (case he => (simp only [go_sem] <;> with_reducible rfl)); (case hcl => (simp)); (case hf => (simp only [go_sem] <;> with_reducible rfl)))
    | (apply aL_pure cxG (c3); (case hg => (simp (disch := first | omega | (simp only [go_sem]; omega)) only [go_sem, get_miss, seval, reduceCtorEq, eq_self_iff_true, decide_true, decide_false, Bool.not_true, Bool.not_false, beq_self_eq_true, bne_self_eq_false, not_true_eq_false, not_false_eq_true, Int.reduceEq, Int.reduceBNe, Int.reduceBEq, aeqs_cons, aeq_int, q1, Bool.and_self, Bool.and_true])); (case hx => (simp (disch := first | omega | (simp only [go_sem]; omega)) only [go_sem, get_miss, seval, reduceCtorEq, eq_self_iff_true, decide_true, decide_false, Bool.not_true, Bool.not_false, beq_self_eq_true, bne_self_eq_false, not_true_eq_false, not_false_eq_true, Int.reduceEq, Int.reduceBNe, Int.reduceBEq, aeqs_cons, aeq_int, q1, Bool.and_self, Bool.and_true] <;> with_reducible rfl)); (case ha => (simp (disch := first | omega | (simp only [go_sem]; omega)) only [go_sem, get_miss, seval, reduceCtorEq, eq_self_iff_true, decide_true, decide_false, Bool.not_true, Bool.not_false, beq_self_eq_true, bne_self_eq_false, not_true_eq_false, not_false_eq_true, Int.reduceEq, Int.reduceBNe, Int.reduceBEq, aeqs_cons, aeq_int, q1, Bool.and_self, Bool.and_true] <;> with_reducible rfl)); (case he => (simp only [go_sem] <;> with_reducible rfl)); (case hcl => (simp)); (case hf => (simp only [go_sem] <;> with_reducible rfl)))
    | (apply aL_pure cxG (c4); (case hg => (simp (disch := first | omega | (simp only [go_sem]; omega)) only [go_sem, get_miss, seval, reduceCtorEq, eq_self_iff_true, decide_true, decide_false, Bool.not_true, Bool.not_false, beq_self_eq_true, bne_self_eq_false, not_true_eq_false, not_false_eq_true, Int.reduceEq, Int.reduceBNe, Int.reduceBEq, aeqs_cons, aeq_int, q1, Bool.and_self, Bool.and_true])); (case hx => (simp (disch := first | omega | (simp only [go_sem]; omega)) only [go_sem, get_miss, seval, reduceCtorEq, eq_self_iff_true, decide_true, decide_false, Bool.not_true, Bool.not_false, beq_self_eq_true, bne_self_eq_false, not_true_eq_false, not_false_eq_true, Int.reduceEq, Int.reduceBNe, Int.reduceBEq, aeqs_cons, aeq_int, q1, Bool.and_self, Bool.and_true] <;> with_reducible rfl)); (case ha => (simp (disch := first | omega | (simp only [go_sem]; omega)) only [go_sem, get_miss, seval, reduceCtorEq, eq_self_iff_true, decide_true, decide_false, Bool.not_true, Bool.not_false, beq_self_eq_true, bne_self_eq_false, not_true_eq_false, not_false_eq_true, Int.reduceEq, Int.reduceBNe, Int.reduceBEq, aeqs_cons, aeq_int, q1, Bool.and_self, Bool.and_true] <;> with_reducible rfl)); (case he => (simp only [go_sem] <;> with_reducible rfl)); (case hcl => (simp)); (case hf => (simp only [go_sem] <;> with_reducible rfl)))
    | (apply aL_pure cxG (t3); (case hg => (simp (disch := first | omega | (simp only [go_sem]; omega)) only [go_sem, get_miss, seval, reduceCtorEq, eq_self_iff_true, decide_true, decide_false, Bool.not_true, Bool.not_false, beq_self_eq_true, bne_self_eq_false, not_true_eq_false, not_false_eq_true, Int.reduceEq, Int.reduceBNe, Int.reduceBEq, aeqs_cons, aeq_int, q1, Bool.and_self, Bool.and_true])); (case hx => (simp (disch := first | omega | (simp only [go_sem]; omega)) only [go_sem, get_miss, seval, reduceCtorEq, eq_self_iff_true, decide_true, decide_false, Bool.not_true, Bool.not_false, beq_self_eq_true, bne_self_eq_false, not_true_eq_false, not_false_eq_true, Int.reduceEq, Int.reduceBNe, Int.reduceBEq, aeqs_cons, aeq_int, q1, Bool.and_self, Bool.and_true] <;> with_reducible rfl)); (case ha => (simp (disch := first | omega | (simp only [go_sem]; omega)) only [go_sem, get_miss, seval, reduceCtorEq, eq_self_iff_true, decide_true, decide_false, Bool.not_true, Bool.not_false, beq_self_eq_true, bne_self_eq_false, not_true_eq_false, not_false_eq_true, Int.reduceEq, Int.reduceBNe, Int.reduceBEq, aeqs_cons, aeq_int, q1, Bool.and_self, Bool.and_true] <;> with_reducible rfl)); (case he => (simp only [go_sem] <;> with_reducible rfl)); (case hcl => (simp)); (case hf => (simp only [go_sem] <;> with_reducible rfl)))
    | (apply aL_pure cxG (t4); (case hg => (simp (disch := first | omega | (simp only [go_sem]; omega)) only [go_sem, get_miss, seval, reduceCtorEq, eq_self_iff_true, decide_true, decide_false, Bool.not_true, Bool.not_false, beq_self_eq_true, bne_self_eq_false, not_true_eq_false, not_false_eq_true, Int.reduceEq, Int.reduceBNe, Int.reduceBEq, aeqs_cons, aeq_int, q1, Bool.and_self, Bool.and_true])); (case hx => (simp (disch := first | omega | (simp only [go_sem]; omega)) only [go_sem, get_miss, seval, reduceCtorEq, eq_self_iff_true, decide_true, decide_false, Bool.not_true, Bool.not_false, beq_self_eq_true, bne_self_eq_false, not_true_eq_false, not_false_eq_true, Int.reduceEq, Int.reduceBNe, Int.reduceBEq, aeqs_cons, aeq_int, q1, Bool.and_self, Bool.and_true] <;> with_reducible rfl)); (case ha => (simp (disch := first | omega | (simp only [go_sem]; omega)) only [go_sem, get_miss, seval, reduceCtorEq, eq_self_iff_true, decide_true, decide_false, Bool.not_true, Bool.not_false, beq_self_eq_true, bne_self_eq_false, not_true_eq_false, not_false_eq_true, Int.reduceEq, Int.reduceBNe, Int.reduceBEq, aeqs_cons, aeq_int, q1, Bool.and_self, Bool.and_true] <;> with_reducible rfl)); (case he => (simp only [go_sem] <;> with_reducible rfl)); (case hcl => (simp)); (case hf => (simp only [go_sem] <;> with_reducible rfl)))
    | (apply aL_pure cxG (l2); (case hg => (simp (disch := first | omega | (simp only [go_sem]; omega)) only [go_sem, get_miss, seval, reduceCtorEq, eq_self_iff_true, decide_true, decide_false, Bool.not_true, Bool.not_false, beq_self_eq_true, bne_self_eq_false, not_true_eq_false, not_false_eq_true, Int.reduceEq, Int.reduceBNe, Int.reduceBEq, aeqs_cons, aeq_int, q1, Bool.and_self, Bool.and_true])); (case hx => (simp (disch := first | omega | (simp only [go_sem]; omega)) only [go_sem, get_miss, seval, reduceCtorEq, eq_self_iff_true, decide_true, decide_false, Bool.not_true, Bool.not_false, beq_self_eq_true, bne_self_eq_false, not_true_eq_false, not_false_eq_true, Int.reduceEq, Int.reduceBNe, Int.reduceBEq, aeqs_cons, aeq_int, q1, Bool.and_self, Bool.and_true] <;> with_reducible rfl)); (case ha => (simp (disch := first | omega | (simp only [go_sem]; omega)) only [go_sem, get_miss, seval, reduceCtorEq, eq_self_iff_true, decide_true, decide_false, Bool.not_true, Bool.not_false, beq_self_eq_true, bne_self_eq_false, not_true_eq_false, not_false_eq_true, Int.reduceEq, Int.reduceBNe, Int.reduceBEq, aeqs_cons, aeq_int, q1, Bool.and_self, Bool.and_true] <;> with_reducible rfl)); (case he => (simp only [go_sem] <;> with_reducible rfl)); (case hcl => (simp)); (case hf => (simp only [go_sem] <;> with_reducible rfl)))
    | (apply aL_pure cxG (l3); (case hg => (simp (disch := first | omega | (simp only [go_sem]; omega)) only [go_sem, get_miss, seval, reduceCtorEq, eq_self_iff_true, decide_true, decide_false, Bool.not_true, Bool.not_false, beq_self_eq_true, bne_self_eq_false, not_true_eq_false, not_false_eq_true, Int.reduceEq, Int.reduceBNe, Int.reduceBEq, aeqs_cons, aeq_int, q1, Bool.and_self, Bool.and_true])); (case hx => (simp (disch := first | omega | (simp only [go_sem]; omega)) only [go_sem, get_miss, seval, reduceCtorEq, eq_self_iff_true, decide_true, decide_false, Bool.not_true, Bool.not_false, beq_self_eq_true, bne_self_eq_false, not_true_eq_false, not_false_eq_true, Int.reduceEq, Int.reduceBNe, Int.reduceBEq, aeqs_cons, aeq_int, q1, Bool.and_self, Bool.and_true] <;> with_reducible rfl)); (case ha => (simp (disch := first | omega | (simp only [go_sem]; omega)) only [go_sem, get_miss, seval, reduceCtorEq, eq_self_iff_true, decide_true, decide_false, Bool.not_true, Bool.not_false, beq_self_eq_true, bne_self_eq_false, not_true_eq_false, not_false_eq_true, Int.reduceEq, Int.reduceBNe, Int.reduceBEq, aeqs_cons, aeq_int, q1, Bool.and_self, Bool.and_true] <;> with_reducible rfl)); (case he => (simp only [go_sem] <;> with_reducible rfl)); (case hcl => (simp)); (case hf => (simp only [go_sem] <;> with_reducible rfl)))
    | (apply aL_pure cxG (hsm); (case hg => (simp (disch := first | omega | (simp only [go_sem]; omega)) only [go_sem, get_miss, seval, reduceCtorEq, eq_self_iff_true, decide_true, decide_false, Bool.not_true, Bool.not_false, beq_self_eq_true, bne_self_eq_false, not_true_eq_false, not_false_eq_true, Int.reduceEq, Int.reduceBNe, Int.reduceBEq, aeqs_cons, aeq_int, q1, Bool.and_self, Bool.and_true])); (case hx => (simp (disch := first | omega | (simp only [go_sem]; omega)) only [go_sem, get_miss, seval, reduceCtorEq, eq_self_iff_true, decide_true, decide_false, Bool.not_true, Bool.not_false, beq_self_eq_true, bne_self_eq_false, not_true_eq_false, not_false_eq_true, Int.reduceEq, Int.reduceBNe, Int.reduceBEq, aeqs_cons, aeq_int, q1, Bool.and_self, Bool.and_true] <;> with_reducible rfl)); (case ha => (simp (disch := first | omega | (simp only [go_sem]; omega)) only [go_sem, get_miss, seval, reduceCtorEq, eq_self_iff_true, decide_true, decide_false, Bool.not_true, Bool.not_false, beq_self_eq_true, bne_self_eq_false, not_true_eq_false, not_false_eq_true, Int.reduceEq, Int.reduceBNe, Int.reduceBEq, aeqs_cons, aeq_int, q1, Bool.and_self, Bool.and_true] <;> with_reducible rfl)); (case he => (simp only [go_sem] <;> with_reducible rfl)); (case hcl => (simp)); (case hf => (simp only [go_sem] <;> with_reducible rfl)))
    | (apply aL_pure cxG (nte); (case hg => (simp (disch := first | omega | (simp only [go_sem]; omega)) only [go_sem, get_miss, seval, reduceCtorEq, eq_self_iff_true, decide_true, decide_false, Bool.not_true, Bool.not_false, beq_self_eq_true, bne_self_eq_false, not_true_eq_false, not_false_eq_true, Int.reduceEq, Int.reduceBNe, Int.reduceBEq, aeqs_cons, aeq_int, q1, Bool.and_self, Bool.and_true])); (case hx => (simp (disch := first | omega | (simp only [go_sem]; omega)) only [go_sem, get_miss, seval, reduceCtorEq, eq_self_iff_true, decide_true, decide_false, Bool.not_true, Bool.not_false, beq_self_eq_true, bne_self_eq_false, not_true_eq_false, not_false_eq_true, Int.reduceEq, Int.reduceBNe, Int.reduceBEq, aeqs_cons, aeq_int, q1, Bool.and_self, Bool.and_true] <;> with_reducible rfl)); (case ha => (simp (disch := first | omega | (simp only [go_sem]; omega)) only [go_sem, get_miss, seval, reduceCtorEq, eq_self_iff_true, decide_true, decide_false, Bool.not_true, Bool.not_false, beq_self_eq_true, bne_self_eq_false, not_true_eq_false, not_false_eq_true, Int.reduceEq, Int.reduceBNe, Int.reduceBEq, aeqs_cons, aeq_int, q1, Bool.and_self, Bool.and_true] <;> with_reducible rfl)); (case he => (simp only [go_sem] <;> with_reducible rfl)); (case hcl => (simp)); (case hf => (simp only [go_sem] <;> with_reducible rfl)))
    | fail)
  all_goals try (first | exact True.intro | exact not_false | omega)
  all_goals try (simp (disch := first | omega | (simp only [go_sem]; omega)) only [go_sem, get_miss, seval, reduceCtorEq] <;> first | exact True.intro | omega)
  all_goals (clear hk n0 n2 c1 c2 c3 c4)
  all_goals try (simp (disch := first | omega | (simp only [go_sem]; omega)) only [go_sem, get_miss, seval, reduceCtorEq])
  all_goals try simp
  all_goals first | exact ⟨by kernel_rfl, by kernel_rfl, q3⟩ | exact ⟨by kernel_rfl, by kernel_rfl, q3, q3⟩
end
end Go.Am
