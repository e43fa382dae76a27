/- CallLists: the document's List, the walk of the law. -/
import Derived.Test.YtikookfljnilpaaDoorL22
import Derived.Test.YtikookfljnilpaaDoorL23
set_option linter.unusedVariables false
set_option linter.unusedSimpArgs false
namespace Go.Am
open Go Go.Proofs
set_option linter.unusedSimpArgs false
set_option linter.unusedVariables false
set_option maxHeartbeats 8000000
set_option maxRecDepth 100000
section
attribute [local irreducible] aC aL thenQ blockQ scopeQ ALoop AWp


theorem ref_List (nl : Bool) (l : List Ca) (hw : ∀ c ∈ l, WfC c) (hM : ∀ c ∈ l, MayC c.1 c.2) (hl : l.length ≤ 65536) : APure cx 35 [.sl 7 nl (cvs l) .any] (.str (listT l)) := by
  have hml : maxLen = 9223372036854775807 := rfl
  refine pure_fn cxOk Tryd.func35 (by kernel_rfl) (fun _ => false) (fun _ => none) (by kernel_rfl) (Nat.le_of_ble_eq_true (by kernel_rfl)) ?_
  dsimp only [LB, Tryd.f35, lite, nextOf, Option.isNone, Bool.not_true, Bool.not_false, Bool.and_true, Bool.true_and, Bool.false_and, Bool.and_self, Bool.false_eq_true, if_false, if_true, ↓reduceIte, liteO, List.map, Option.map, frame0, List.zipIdx, Nat.reduceAdd]
  try simp only [List.getElem?_toArray, List.getElem?_cons_succ, List.getElem?_cons_zero, Option.bind_some]
  repeat' (first
    | refine aC_seq ?_
    | refine aC_reg rfl ?_
    | refine aC_block ?_
    | refine aC_loop ?_
    | refine thenQ_normal ?_
    | refine aL_nil ?_
    | (apply aL_step; (· exact True.intro); (· simp (disch := first | omega | (simp only [go_sem]; omega)) only [go_sem, get_miss, seval, reduceCtorEq]); (· simp (disch := first | omega | (simp only [go_sem]; omega)) only [go_sem, get_miss, seval, reduceCtorEq] <;> with_reducible rfl); (· simp only [go_sem] <;> with_reducible rfl))
    | fail)
  · refine loop_rule (cxOk.wp _ _) (σ := Nat) (fun k => [(4, .int .i64 k), (3, .sl 1 (listT (l.take k)).isEmpty (bl (listT (l.take k))) (.grow 0)), (0, .sl 7 nl (cvs l) .any)])
      (fun k => [.grow (listT (l.take k)).length 1 5]) (fun k => l.length - k) (fun k => k ≤ l.length) 0 (GStep.nil 3 1 5 rfl) ⟨Nat.zero_le _, Sub.of_all (by simp [Fr.get, frame0, listT, bl]), by simp [listT]⟩ ?_
    intro k hk
    have htl := listT_len (l.take k) (fun c hc => hw c (List.mem_of_mem_take hc))
    have htk : (l.take k).length ≤ 65536 := by rw [List.length_take]; omega
    by_cases hlt : k < l.length
    · have hcw := hw _ (List.getElem_mem hlt)
      have hx6 : l[k].2.length = 6 := hcw.1
      have hxl := ctx_len (op := l[k].1) hcw.2
      have htake := listT_take l k hlt
      have hgd := getD_cvs l k .any hlt
      have hrt := ref_Text l[k].1 l[k].2 hcw.1 hcw.2 (hM _ (List.getElem_mem hlt)).1
      have hte : (listT (l.take (k + 1))).isEmpty = false := by rw [htake]; simp
      generalize hX : ctx l[k].1 l[k].2 = X at *
      generalize l[k] = c at *
      generalize hbs : listT (l.take k) = bs at *
      repeat' (first
        | refine aC_seq ?_
        | refine aC_reg rfl ?_
        | refine aC_block ?_
        | refine aC_skip ?_
        | refine thenQ_normal ?_
        | refine blockQ_normal ?_
        | refine aL_nil ?_
        | (apply aL_step; (· exact True.intro); (· simp (disch := first | omega | (simp only [go_sem]; omega)) only [go_sem, get_miss, seval, reduceCtorEq, hgd]); (· simp (disch := first | omega | (simp only [go_sem]; omega)) only [go_sem, get_miss, seval, reduceCtorEq, hgd] <;> with_reducible rfl); (· simp only [go_sem] <;> with_reducible rfl))
        | (refine aC_condP (by simp (disch := first | omega | (simp only [go_sem]; omega)) only [go_sem, get_miss, seval, reduceCtorEq, hgd] <;> with_reducible rfl) ?_ ?_ <;> (intro h; first | (exfalso; omega) | skip))
        | (apply aL_pure cxG (hrt); (case hg => (simp (disch := first | omega | (simp only [go_sem]; omega)) only [go_sem, get_miss, seval, reduceCtorEq, hgd])); (case hx => (simp (disch := first | omega | (simp only [go_sem]; omega)) only [go_sem, get_miss, seval, reduceCtorEq, hgd] <;> with_reducible rfl)); (case ha => (simp (disch := first | omega | (simp only [go_sem]; omega)) only [go_sem, get_miss, seval, reduceCtorEq, hgd] <;> with_reducible rfl)); (case he => (simp only [go_sem] <;> with_reducible rfl)); (case hcl => (simp)); (case hf => (simp only [go_sem] <;> with_reducible rfl)))
        | fail)
      all_goals try (first | exact True.intro | exact not_false | omega)
      all_goals try (simp (disch := first | omega | (simp only [go_sem]; omega)) only [go_sem, get_miss, seval, reduceCtorEq] <;> first | exact True.intro | omega)
      all_goals first | omega | exact ⟨k + 1, by omega, Sub.of_all (by simp [Fr.get, hte, htake, bl, bv]), by simp [htake, List.length_append, Nat.add_assoc], by omega⟩ | (simp [bl]; done) | (simp [bl]; omega)
    · have hk' : k = l.length := by omega
      subst hk'
      rw [List.take_length]
      repeat' (first
        | refine aC_seq ?_
        | refine aC_reg rfl ?_
        | refine aC_exit ?_
        | refine aC_ret ?_
        | refine thenQ_normal ?_
        | refine thenQ_exit ?_
        | refine blockQ_hit ?_
        | refine aL_nil ?_
        | (apply aL_step; (· exact True.intro); (· simp (disch := first | omega | (simp only [go_sem]; omega)) only [go_sem, get_miss, seval, reduceCtorEq]); (· simp (disch := first | omega | (simp only [go_sem]; omega)) only [go_sem, get_miss, seval, reduceCtorEq] <;> with_reducible rfl); (· simp only [go_sem] <;> with_reducible rfl))
        | (refine aC_condP (by simp (disch := first | omega | (simp only [go_sem]; omega)) only [go_sem, get_miss, seval, reduceCtorEq] <;> with_reducible rfl) ?_ ?_ <;> (intro h; first | (exfalso; omega) | skip))
        | fail)
      all_goals try (first | exact True.intro | exact not_false | omega)
      all_goals try (simp (disch := first | omega | (simp only [go_sem]; omega)) only [go_sem, get_miss, seval, reduceCtorEq] <;> first | exact True.intro | omega)
      all_goals try (simp (disch := first | omega | (simp only [go_sem]; omega)) only [go_sem, get_miss, seval, reduceCtorEq])
      all_goals try simp
  all_goals first | trivial | omega

/-- What both make of a text. -/
theorem both_Unlist (s : List UInt8) (hs : s.length ≤ 1048576) : ∃ (n e : Int),
    (APure cx 32 [.str s] (.tup [.sl 1 true [] .any, .int .i64 n, .int .i64 e]) ∧ APure cx 33 [.str s] (.tup [.sl 1 true [] .any, .int .i64 n, .int .i64 e]) ∧ e ≠ 0) ∨
    (∃ (b : Bool) (M : List Ca), M.length ≤ 65536 ∧ (∀ c ∈ M, WfC c ∧ MayC c.1 c.2) ∧ listT M = s ∧ n = 0 ∧ e = 0 ∧ APure cx 32 [.str s] (.tup [.sl 7 b (cvs M) .any, .int .i64 0, .int .i64 0]) ∧ APure cx 33 [.str s] (.tup [.sl 7 b (cvs M) .any, .int .i64 0, .int .i64 0])) := by
  obtain ⟨L, rest, hp, h1, h2, hj⟩ := jn_lines _ s (Nat.le_refl _)
  have go : ∀ r, UnR L rest r → APure cx 32 [.str s] r ∧ APure cx 33 [.str s] r := fun r hr => ⟨call_Unlist s L rest hs hp h1 h2 hj r hr, ref_Unlist s L rest hs hp hj r hr⟩
  by_cases hl : Long L rest
  · obtain ⟨g1, g2⟩ := go _ (.inl ⟨hl, rfl⟩)
    exact ⟨0, 3, .inl ⟨g1, g2, by decide⟩⟩
  · have h65 : L.length ≤ 65536 := Decidable.byContradiction fun h => hl (.inl (by omega))
    by_cases hall : ∀ x ∈ L, IsC x
    · by_cases hr : rest = []
      · obtain ⟨g1, g2⟩ := go _ (.inr (.inl ⟨hl, hall, hr, rfl⟩))
        refine ⟨0, 0, .inr ⟨_, L.map callL, by rw [List.length_map]; exact h65, fun c hc => ?_, ?_, rfl, rfl, g1, g2⟩⟩
        · obtain ⟨x, hx, rfl⟩ := List.mem_map.1 hc
          have := callL_is (hall x hx)
          exact ⟨⟨this.2.1, this.2.2.1⟩, this.1⟩
        · rw [hj, hr]
          clear go hl hj hp h65 h1 g1 g2
          induction L with
          | nil => rfl
          | cons y L ih =>
            have hy := callL_is (hall y (List.mem_cons_self ..))
            have e := ih fun x hx => hall x (List.mem_cons_of_mem _ hx)
            unfold listT at e ⊢
            rw [List.map_cons, List.flatMap_cons, e, jn_cons, hy.2.2.2]
            simp
      · obtain ⟨g1, g2⟩ := go _ (.inr (.inr ⟨hl, L.length, Nat.le_refl _, by rw [List.take_length]; exact hall, .inr ⟨rfl, hr⟩, rfl⟩))
        exact ⟨_, 4, .inl ⟨g1, g2, by decide⟩⟩
    · have : ∃ k, ∃ h : k < L.length, (∀ x ∈ L.take k, IsC x) ∧ ¬ IsC L[k] := by
        clear go hl hj hp h65 h1
        induction L with
        | nil => exact absurd (fun x hx => by cases hx) hall
        | cons y L ih =>
          by_cases hy : IsC y
          · obtain ⟨k, hk, h1, h2⟩ := ih (fun h => hall (fun x hx => by
              rcases List.mem_cons.1 hx with rfl | hx
              · exact hy
              · exact h x hx))
            exact ⟨k + 1, by simpa using hk, fun x hx => by
              rw [List.take_succ_cons] at hx
              rcases List.mem_cons.1 hx with rfl | hx
              · exact hy
              · exact h1 x hx, by simpa using h2⟩
          · exact ⟨0, by simp, fun x hx => by simp at hx, by simpa using hy⟩
      obtain ⟨k, hk, g1, g2⟩ := this
      obtain ⟨q1, q2⟩ := go _ (.inr (.inr ⟨hl, k, by omega, g1, .inl ⟨hk, g2⟩, rfl⟩))
      exact ⟨_, 4, .inl ⟨q1, q2, by decide⟩⟩

theorem law_lists (nl : Bool) (l : List Ca) (s : List UInt8) (hw : ∀ c ∈ l, WfC c) (hll : l.length ≤ 9223372036854775807) (hsl : s.length ≤ 9223372036854775807) :
    APure cx 7 [.sl 7 nl (cvs l) .any, .str s] (.bool true) := by
  have hk := call_known
  have n0 := law_num 0
  have n2 := law_num 2
  by_cases hh : l.length ≤ 600 ∧ s.length ≤ 20000
  case neg =>
    have hh' : 600 < l.length ∨ (l.length ≤ 600 ∧ 20000 < s.length) := by omega
    rcases hh' with h1 | ⟨h1, h2⟩
    all_goals
    refine pure_fn cxOk Tryd.func7 (by kernel_rfl) (fun _ => false) (fun _ => none) (by kernel_rfl) (Nat.le_of_ble_eq_true (by kernel_rfl)) ?_
    dsimp only [LB, Tryd.f7, lite, nextOf, Option.isNone, Bool.not_true, Bool.not_false, Bool.and_true, Bool.true_and, Bool.false_and, Bool.and_self, Bool.false_eq_true, if_false, if_true, ↓reduceIte, liteO, List.map, Option.map, frame0, List.zipIdx, Nat.reduceAdd]
    try simp only [List.getElem?_toArray, List.getElem?_cons_succ, List.getElem?_cons_zero, Option.bind_some]
    repeat' (first
      | refine aC_seq ?_
      | refine aC_reg rfl ?_
      | refine aC_ret ?_
      | refine thenQ_normal ?_
      | refine thenQ_ret ?_
      | refine aL_nil ?_
      | (apply aL_step; (· exact True.intro); (· simp (disch := first | omega | (simp only [go_sem]; omega)) only [go_sem, get_miss, seval, reduceCtorEq]); (· simp (disch := first | omega | (simp only [go_sem]; omega)) only [go_sem, get_miss, seval, reduceCtorEq] <;> with_reducible rfl); (· simp only [go_sem] <;> with_reducible rfl))
      | (refine aL_skip ?_ (by simp only [go_sem] <;> with_reducible rfl) ?_; (· simp (disch := first | omega | (simp only [go_sem]; omega)) only [go_sem, get_miss, seval, reduceCtorEq]))
      | (apply aL_guardN; (· simp (disch := first | omega | (simp only [go_sem]; omega)) only [go_sem, get_miss, seval, reduceCtorEq] <;> with_reducible rfl); all_goals (intro h; first | (exfalso; omega) | (simp only [h, decide_true, decide_false, not_true, not_false_iff])))
      | (refine aC_condT ?_ ?_; (· simp (disch := first | omega | (simp only [go_sem]; omega)) only [go_sem, get_miss, seval, reduceCtorEq]))
      | (refine aC_condP (by simp (disch := first | omega | (simp only [go_sem]; omega)) only [go_sem, get_miss, seval, reduceCtorEq] <;> with_reducible rfl) ?_ ?_ <;> (intro h; first | (exfalso; omega) | skip))
      | (apply aL_pure cxG (hk); (case hg => (simp (disch := first | omega | (simp only [go_sem]; omega)) only [go_sem, get_miss, seval, reduceCtorEq])); (case hx => (simp (disch := first | omega | (simp only [go_sem]; omega)) only [go_sem, get_miss, seval, reduceCtorEq] <;> with_reducible rfl)); (case ha => (simp (disch := first | omega | (simp only [go_sem]; omega)) only [go_sem, get_miss, seval, reduceCtorEq] <;> with_reducible rfl)); (case he => (simp only [go_sem] <;> with_reducible rfl)); (case hcl => (simp)); (case hf => (simp only [go_sem] <;> with_reducible rfl)))
      | fail)
    all_goals try (first | exact True.intro | exact not_false | omega)
    all_goals try (simp (disch := first | omega | (simp only [go_sem]; omega)) only [go_sem, get_miss, seval, reduceCtorEq] <;> first | exact True.intro | omega)
    all_goals try (simp (disch := first | omega | (simp only [go_sem]; omega)) only [go_sem, get_miss, seval, reduceCtorEq])
    all_goals try simp
  case pos =>
  obtain ⟨h1, h2⟩ := hh
  have hlist := call_List nl l hw (by omega)
  rw [if_neg (by omega)] at hlist
  have hun : ∃ (v : AVal) (n e : Int), APure cx 32 [.str s] (.tup [v, .int .i64 n, .int .i64 e]) ∧ APure cx 33 [.str s] (.tup [v, .int .i64 n, .int .i64 e]) ∧ APure cx 34 [v, v] (.bool true) ∧ (∃ sz b L, v = .sl sz b L .any ∧ ∀ x ∈ L, Closed x) := by
    obtain ⟨n, e, h⟩ := both_Unlist s (by omega)
    rcases h with ⟨g1, g2, _⟩ | ⟨b, M, hM, hc, _, rfl, rfl, g1, g2⟩
    · exact ⟨_, n, e, g1, g2, law_same0, 1, true, [], rfl, fun _ h => by cases h⟩
    · exact ⟨_, 0, 0, g1, g2, law_same b b M (fun c h => (hc c h).1.1) (by omega), 7, b, cvs M, rfl, (closed_cvs M).2 trivial⟩
  obtain ⟨_, n, e, g1, g2, g3, sz, vb, vl, rfl, hvc⟩ := hun
  have hvc' : (∀ x ∈ vl, Closed x) ↔ True := ⟨fun _ => trivial, fun _ => hvc⟩
  have ne := law_num e
  by_cases hM : ∀ c ∈ l, MayC c.1 c.2
  case' pos =>
    rw [if_pos hM] at hlist
    have hrl := ref_List nl l hw hM (by omega)
    generalize listT l = T at *
  case' neg => rw [if_neg hM] at hlist
  case pos =>
    refine pure_fn cxOk Tryd.func7 (by kernel_rfl) (fun _ => false) (fun _ => none) (by kernel_rfl) (Nat.le_of_ble_eq_true (by kernel_rfl)) ?_
    dsimp only [LB, Tryd.f7, lite, nextOf, Option.isNone, Bool.not_true, Bool.not_false, Bool.and_true, Bool.true_and, Bool.false_and, Bool.and_self, Bool.false_eq_true, if_false, if_true, ↓reduceIte, liteO, List.map, Option.map, frame0, List.zipIdx, Nat.reduceAdd]
    try simp only [List.getElem?_toArray, List.getElem?_cons_succ, List.getElem?_cons_zero, Option.bind_some]
    repeat' (first
      | refine aC_seq ?_
      | refine aC_reg rfl ?_
      | refine aC_block ?_
      | refine aC_skip ?_
      | refine aC_loop ?_
      | refine thenQ_normal ?_
      | refine aL_nil ?_
      | (apply aL_step; (· exact True.intro); (· simp (disch := first | omega | (simp only [go_sem]; omega)) only [go_sem, get_miss, seval, reduceCtorEq, eq_self_iff_true, decide_true, decide_false, Bool.not_true, Bool.not_false, beq_self_eq_true, bne_self_eq_false, not_true_eq_false, not_false_eq_true, Int.reduceEq, hvc']); (· simp (disch := first | omega | (simp only [go_sem]; omega)) only [go_sem, get_miss, seval, reduceCtorEq, eq_self_iff_true, decide_true, decide_false, Bool.not_true, Bool.not_false, beq_self_eq_true, bne_self_eq_false, not_true_eq_false, not_false_eq_true, Int.reduceEq, hvc'] <;> with_reducible rfl); (· simp only [go_sem] <;> with_reducible rfl))
      | (apply aL_guardN; (· simp (disch := first | omega | (simp only [go_sem]; omega)) only [go_sem, get_miss, seval, reduceCtorEq, eq_self_iff_true, decide_true, decide_false, Bool.not_true, Bool.not_false, beq_self_eq_true, bne_self_eq_false, not_true_eq_false, not_false_eq_true, Int.reduceEq, hvc'] <;> with_reducible rfl); all_goals (intro h; first | (exfalso; omega) | (simp only [h, decide_true, decide_false, not_true, not_false_iff])))
      | (refine aC_condF ?_ ?_; (· simp (disch := first | omega | (simp only [go_sem]; omega)) only [go_sem, get_miss, seval, reduceCtorEq, eq_self_iff_true, decide_true, decide_false, Bool.not_true, Bool.not_false, beq_self_eq_true, bne_self_eq_false, not_true_eq_false, not_false_eq_true, Int.reduceEq, hvc']))
      | (refine aC_condP (by simp (disch := first | omega | (simp only [go_sem]; omega)) only [go_sem, get_miss, seval, reduceCtorEq, eq_self_iff_true, decide_true, decide_false, Bool.not_true, Bool.not_false, beq_self_eq_true, bne_self_eq_false, not_true_eq_false, not_false_eq_true, Int.reduceEq, hvc'] <;> with_reducible rfl) ?_ ?_ <;> (intro h; first | (exfalso; omega) | skip))
      | (apply aL_pure cxG (g1); (case hg => (simp (disch := first | omega | (simp only [go_sem]; omega)) only [go_sem, get_miss, seval, reduceCtorEq, eq_self_iff_true, decide_true, decide_false, Bool.not_true, Bool.not_false, beq_self_eq_true, bne_self_eq_false, not_true_eq_false, not_false_eq_true, Int.reduceEq, hvc'])); (case hx => (simp (disch := first | omega | (simp only [go_sem]; omega)) only [go_sem, get_miss, seval, reduceCtorEq, eq_self_iff_true, decide_true, decide_false, Bool.not_true, Bool.not_false, beq_self_eq_true, bne_self_eq_false, not_true_eq_false, not_false_eq_true, Int.reduceEq, hvc'] <;> with_reducible rfl)); (case ha => (simp (disch := first | omega | (simp only [go_sem]; omega)) only [go_sem, get_miss, seval, reduceCtorEq, eq_self_iff_true, decide_true, decide_false, Bool.not_true, Bool.not_false, beq_self_eq_true, bne_self_eq_false, not_true_eq_false, not_false_eq_true, Int.reduceEq, hvc'] <;> with_reducible rfl)); (case he => (simp only [go_sem] <;> with_reducible rfl)); (case hcl => (simp)); (case hf => (simp only [go_sem] <;> with_reducible rfl)))
      | (apply aL_pure cxG (g2); (case hg => (simp (disch := first | omega | (simp only [go_sem]; omega)) only [go_sem, get_miss, seval, reduceCtorEq, eq_self_iff_true, decide_true, decide_false, Bool.not_true, Bool.not_false, beq_self_eq_true, bne_self_eq_false, not_true_eq_false, not_false_eq_true, Int.reduceEq, hvc'])); (case hx => (simp (disch := first | omega | (simp only [go_sem]; omega)) only [go_sem, get_miss, seval, reduceCtorEq, eq_self_iff_true, decide_true, decide_false, Bool.not_true, Bool.not_false, beq_self_eq_true, bne_self_eq_false, not_true_eq_false, not_false_eq_true, Int.reduceEq, hvc'] <;> with_reducible rfl)); (case ha => (simp (disch := first | omega | (simp only [go_sem]; omega)) only [go_sem, get_miss, seval, reduceCtorEq, eq_self_iff_true, decide_true, decide_false, Bool.not_true, Bool.not_false, beq_self_eq_true, bne_self_eq_false, not_true_eq_false, not_false_eq_true, Int.reduceEq, hvc'] <;> with_reducible rfl)); (case he => (simp only [go_sem] <;> with_reducible rfl)); (case hcl => (simp)); (case hf => (simp only [go_sem] <;> with_reducible rfl)))
      | (apply aL_pure cxG g3; (case hg => (simp (disch := first | omega | (simp only [go_sem]; omega)) only [go_sem, get_miss, seval, reduceCtorEq, eq_self_iff_true, decide_true, decide_false, Bool.not_true, Bool.not_false, beq_self_eq_true, bne_self_eq_false, not_true_eq_false, not_false_eq_true, Int.reduceEq, hvc'])); (case hx => (simp (disch := first | omega | (simp only [go_sem]; omega)) only [go_sem, get_miss, seval, reduceCtorEq, eq_self_iff_true, decide_true, decide_false, Bool.not_true, Bool.not_false, beq_self_eq_true, bne_self_eq_false, not_true_eq_false, not_false_eq_true, Int.reduceEq, hvc'] <;> with_reducible rfl)); (case ha => (simp (disch := first | omega | (simp only [go_sem]; omega)) only [go_sem, get_miss, seval, reduceCtorEq, eq_self_iff_true, decide_true, decide_false, Bool.not_true, Bool.not_false, beq_self_eq_true, bne_self_eq_false, not_true_eq_false, not_false_eq_true, Int.reduceEq, hvc'] <;> with_reducible rfl)); (case he => (simp only [go_sem] <;> with_reducible rfl)); (case hcl => (simp; first | exact hvc | exact ⟨hvc, hvc⟩)); (case hf => (simp only [go_sem] <;> with_reducible rfl)))
      | (apply aL_pure cxG (ne); (case hg => (simp (disch := first | omega | (simp only [go_sem]; omega)) only [go_sem, get_miss, seval, reduceCtorEq, eq_self_iff_true, decide_true, decide_false, Bool.not_true, Bool.not_false, beq_self_eq_true, bne_self_eq_false, not_true_eq_false, not_false_eq_true, Int.reduceEq, hvc'])); (case hx => (simp (disch := first | omega | (simp only [go_sem]; omega)) only [go_sem, get_miss, seval, reduceCtorEq, eq_self_iff_true, decide_true, decide_false, Bool.not_true, Bool.not_false, beq_self_eq_true, bne_self_eq_false, not_true_eq_false, not_false_eq_true, Int.reduceEq, hvc'] <;> with_reducible rfl)); (case ha => (simp (disch := first | omega | (simp only [go_sem]; omega)) only [go_sem, get_miss, seval, reduceCtorEq, eq_self_iff_true, decide_true, decide_false, Bool.not_true, Bool.not_false, beq_self_eq_true, bne_self_eq_false, not_true_eq_false, not_false_eq_true, Int.reduceEq, hvc'] <;> with_reducible rfl)); (case he => (simp only [go_sem] <;> with_reducible rfl)); (case hcl => (simp)); (case hf => (simp only [go_sem] <;> with_reducible rfl)))
      | (apply aL_pure cxG (hlist); (case hg => (simp (disch := first | omega | (simp only [go_sem]; omega)) only [go_sem, get_miss, seval, reduceCtorEq, eq_self_iff_true, decide_true, decide_false, Bool.not_true, Bool.not_false, beq_self_eq_true, bne_self_eq_false, not_true_eq_false, not_false_eq_true, Int.reduceEq, hvc'])); (case hx => (simp (disch := first | omega | (simp only [go_sem]; omega)) only [go_sem, get_miss, seval, reduceCtorEq, eq_self_iff_true, decide_true, decide_false, Bool.not_true, Bool.not_false, beq_self_eq_true, bne_self_eq_false, not_true_eq_false, not_false_eq_true, Int.reduceEq, hvc'] <;> with_reducible rfl)); (case ha => (simp (disch := first | omega | (simp only [go_sem]; omega)) only [go_sem, get_miss, seval, reduceCtorEq, eq_self_iff_true, decide_true, decide_false, Bool.not_true, Bool.not_false, beq_self_eq_true, bne_self_eq_false, not_true_eq_false, not_false_eq_true, Int.reduceEq, hvc'] <;> with_reducible rfl)); (case he => (simp only [go_sem] <;> with_reducible rfl)); (case hcl => (simp)); (case hf => (simp only [go_sem] <;> with_reducible rfl)))
      | fail)
    · clear g1 g2 g3 ne hlist
      refine loop_rule (cxOk.wp _ _) (σ := Nat) (fun k => [(13, .int .i64 k), (12, .int .i64 0), (11, .str T), (0, .sl 7 nl (cvs l) .any)])
        (fun _ => []) (fun k => l.length - k) (fun k => k ≤ l.length ∧ ∀ c ∈ l.take k, MayC c.1 c.2) 0 (GStep.refl _ _) ⟨⟨Nat.zero_le _, by simp⟩, Sub.of_all (by simp [Fr.get, frame0]), rfl⟩ ?_
      rintro k ⟨hkl, hJ⟩
      by_cases hlt : k < l.length
      · have hgd := getD_cvs l k .any hlt
        have hcw := hw _ (List.getElem_mem hlt)
        have hx6 : l[k].2.length = 6 := hcw.1
        have hm := ref_May l[k].1 l[k].2 hx6
        by_cases hMk : MayC l[k].1 l[k].2
        · rw [decide_eq_true hMk] at hm
          have hJ' : ∀ c ∈ l.take (k + 1), MayC c.1 c.2 := by
            rw [List.take_succ_eq_append_getElem hlt]
            intro c hc
            rcases List.mem_append.1 hc with h | h
            · exact hJ c h
            · rw [List.mem_singleton.1 h]; exact hMk
          clear hMk hcw
          generalize l[k] = c at *
          repeat' (first
            | refine aC_seq ?_
            | refine aC_reg rfl ?_
            | refine aC_block ?_
            | refine aC_skip ?_
            | refine thenQ_normal ?_
            | refine blockQ_normal ?_
            | refine aL_nil ?_
            | (apply aL_step; (· exact True.intro); (· simp (disch := first | omega | (simp only [go_sem]; omega)) only [go_sem, get_miss, seval, reduceCtorEq, hgd]); (· simp (disch := first | omega | (simp only [go_sem]; omega)) only [go_sem, get_miss, seval, reduceCtorEq, hgd] <;> with_reducible rfl); (· simp only [go_sem] <;> with_reducible rfl))
            | (refine aC_condF ?_ ?_; (· simp (disch := first | omega | (simp only [go_sem]; omega)) only [go_sem, get_miss, seval, reduceCtorEq, hgd]))
            | (refine aC_condP (by simp (disch := first | omega | (simp only [go_sem]; omega)) only [go_sem, get_miss, seval, reduceCtorEq, hgd] <;> with_reducible rfl) ?_ ?_ <;> (intro h; first | (exfalso; omega) | skip))
            | (apply aL_pure cxG (hm); (case hg => (simp (disch := first | omega | (simp only [go_sem]; omega)) only [go_sem, get_miss, seval, reduceCtorEq, hgd])); (case hx => (simp (disch := first | omega | (simp only [go_sem]; omega)) only [go_sem, get_miss, seval, reduceCtorEq, hgd] <;> with_reducible rfl)); (case ha => (simp (disch := first | omega | (simp only [go_sem]; omega)) only [go_sem, get_miss, seval, reduceCtorEq, hgd] <;> with_reducible rfl)); (case he => (simp only [go_sem] <;> with_reducible rfl)); (case hcl => (simp)); (case hf => (simp only [go_sem] <;> with_reducible rfl)))
            | fail)
          all_goals try (first | exact True.intro | exact not_false | omega)
          all_goals try (simp (disch := first | omega | (simp only [go_sem]; omega)) only [go_sem, get_miss, seval, reduceCtorEq] <;> first | exact True.intro | omega)
          all_goals first | omega | exact ⟨k + 1, ⟨by omega, hJ'⟩, Sub.of_all (by simp [Fr.get]), rfl, by omega⟩
        · exact absurd (hM _ (List.getElem_mem hlt)) hMk
      · have hk' : k = l.length := by omega
        subst hk'
        rw [List.take_length] at hJ
        repeat' (first
          | refine aC_seq ?_
          | refine aC_reg rfl ?_
          | refine aC_exit ?_
          | refine aC_ret ?_
          | refine thenQ_normal ?_
          | refine thenQ_exit ?_
          | refine blockQ_hit ?_
          | refine aL_nil ?_
          | (apply aL_step; (· exact True.intro); (· simp (disch := first | omega | (simp only [go_sem]; omega)) only [go_sem, get_miss, seval, reduceCtorEq, eq_self_iff_true, decide_true, decide_false, Bool.not_true, Bool.not_false, beq_self_eq_true, bne_self_eq_false, not_true_eq_false, not_false_eq_true, Int.reduceEq]); (· simp (disch := first | omega | (simp only [go_sem]; omega)) only [go_sem, get_miss, seval, reduceCtorEq, eq_self_iff_true, decide_true, decide_false, Bool.not_true, Bool.not_false, beq_self_eq_true, bne_self_eq_false, not_true_eq_false, not_false_eq_true, Int.reduceEq] <;> with_reducible rfl); (· simp only [go_sem] <;> with_reducible rfl))
          | (refine aC_condP (by simp (disch := first | omega | (simp only [go_sem]; omega)) only [go_sem, get_miss, seval, reduceCtorEq, eq_self_iff_true, decide_true, decide_false, Bool.not_true, Bool.not_false, beq_self_eq_true, bne_self_eq_false, not_true_eq_false, not_false_eq_true, Int.reduceEq] <;> with_reducible rfl) ?_ ?_ <;> (intro h; first | (exfalso; omega) | skip))
          | (apply aL_pure cxG (hrl); (case hg => (simp (disch := first | omega | (simp only [go_sem]; omega)) only [go_sem, get_miss, seval, reduceCtorEq, eq_self_iff_true, decide_true, decide_false, Bool.not_true, Bool.not_false, beq_self_eq_true, bne_self_eq_false, not_true_eq_false, not_false_eq_true, Int.reduceEq])); (case hx => (simp (disch := first | omega | (simp only [go_sem]; omega)) only [go_sem, get_miss, seval, reduceCtorEq, eq_self_iff_true, decide_true, decide_false, Bool.not_true, Bool.not_false, beq_self_eq_true, bne_self_eq_false, not_true_eq_false, not_false_eq_true, Int.reduceEq] <;> with_reducible rfl)); (case ha => (simp (disch := first | omega | (simp only [go_sem]; omega)) only [go_sem, get_miss, seval, reduceCtorEq, eq_self_iff_true, decide_true, decide_false, Bool.not_true, Bool.not_false, beq_self_eq_true, bne_self_eq_false, not_true_eq_false, not_false_eq_true, Int.reduceEq] <;> with_reducible rfl)); (case he => (simp only [go_sem] <;> with_reducible rfl)); (case hcl => (simp)); (case hf => (simp only [go_sem] <;> with_reducible rfl)))
          | (apply aL_pure cxG (n0); (case hg => (simp (disch := first | omega | (simp only [go_sem]; omega)) only [go_sem, get_miss, seval, reduceCtorEq, eq_self_iff_true, decide_true, decide_false, Bool.not_true, Bool.not_false, beq_self_eq_true, bne_self_eq_false, not_true_eq_false, not_false_eq_true, Int.reduceEq])); (case hx => (simp (disch := first | omega | (simp only [go_sem]; omega)) only [go_sem, get_miss, seval, reduceCtorEq, eq_self_iff_true, decide_true, decide_false, Bool.not_true, Bool.not_false, beq_self_eq_true, bne_self_eq_false, not_true_eq_false, not_false_eq_true, Int.reduceEq] <;> with_reducible rfl)); (case ha => (simp (disch := first | omega | (simp only [go_sem]; omega)) only [go_sem, get_miss, seval, reduceCtorEq, eq_self_iff_true, decide_true, decide_false, Bool.not_true, Bool.not_false, beq_self_eq_true, bne_self_eq_false, not_true_eq_false, not_false_eq_true, Int.reduceEq] <;> with_reducible rfl)); (case he => (simp only [go_sem] <;> with_reducible rfl)); (case hcl => (simp)); (case hf => (simp only [go_sem] <;> with_reducible rfl)))
          | (apply aL_pure cxG (hk); (case hg => (simp (disch := first | omega | (simp only [go_sem]; omega)) only [go_sem, get_miss, seval, reduceCtorEq, eq_self_iff_true, decide_true, decide_false, Bool.not_true, Bool.not_false, beq_self_eq_true, bne_self_eq_false, not_true_eq_false, not_false_eq_true, Int.reduceEq])); (case hx => (simp (disch := first | omega | (simp only [go_sem]; omega)) only [go_sem, get_miss, seval, reduceCtorEq, eq_self_iff_true, decide_true, decide_false, Bool.not_true, Bool.not_false, beq_self_eq_true, bne_self_eq_false, not_true_eq_false, not_false_eq_true, Int.reduceEq] <;> with_reducible rfl)); (case ha => (simp (disch := first | omega | (simp only [go_sem]; omega)) only [go_sem, get_miss, seval, reduceCtorEq, eq_self_iff_true, decide_true, decide_false, Bool.not_true, Bool.not_false, beq_self_eq_true, bne_self_eq_false, not_true_eq_false, not_false_eq_true, Int.reduceEq] <;> with_reducible rfl)); (case he => (simp only [go_sem] <;> with_reducible rfl)); (case hcl => (simp)); (case hf => (simp only [go_sem] <;> with_reducible rfl)))
          | fail)
        all_goals try (first | exact True.intro | exact not_false | omega)
        all_goals try (simp (disch := first | omega | (simp only [go_sem]; omega)) only [go_sem, get_miss, seval, reduceCtorEq] <;> first | exact True.intro | omega)
        all_goals (clear hrl n0 hk)
        all_goals try (simp (disch := first | omega | (simp only [go_sem]; omega)) only [go_sem, get_miss, seval, reduceCtorEq])
        all_goals try simp
    all_goals first | trivial | omega
  case neg =>
    refine pure_fn cxOk Tryd.func7 (by kernel_rfl) (fun _ => false) (fun _ => none) (by kernel_rfl) (Nat.le_of_ble_eq_true (by kernel_rfl)) ?_
    dsimp only [LB, Tryd.f7, lite, nextOf, Option.isNone, Bool.not_true, Bool.not_false, Bool.and_true, Bool.true_and, Bool.false_and, Bool.and_self, Bool.false_eq_true, if_false, if_true, ↓reduceIte, liteO, List.map, Option.map, frame0, List.zipIdx, Nat.reduceAdd]
    try simp only [List.getElem?_toArray, List.getElem?_cons_succ, List.getElem?_cons_zero, Option.bind_some]
    repeat' (first
      | refine aC_seq ?_
      | refine aC_reg rfl ?_
      | refine aC_block ?_
      | refine aC_skip ?_
      | refine aC_loop ?_
      | refine thenQ_normal ?_
      | refine aL_nil ?_
      | (apply aL_step; (· exact True.intro); (· simp (disch := first | omega | (simp only [go_sem]; omega)) only [go_sem, get_miss, seval, reduceCtorEq, eq_self_iff_true, decide_true, decide_false, Bool.not_true, Bool.not_false, beq_self_eq_true, bne_self_eq_false, not_true_eq_false, not_false_eq_true, Int.reduceEq, hvc']); (· simp (disch := first | omega | (simp only [go_sem]; omega)) only [go_sem, get_miss, seval, reduceCtorEq, eq_self_iff_true, decide_true, decide_false, Bool.not_true, Bool.not_false, beq_self_eq_true, bne_self_eq_false, not_true_eq_false, not_false_eq_true, Int.reduceEq, hvc'] <;> with_reducible rfl); (· simp only [go_sem] <;> with_reducible rfl))
      | (apply aL_guardN; (· simp (disch := first | omega | (simp only [go_sem]; omega)) only [go_sem, get_miss, seval, reduceCtorEq, eq_self_iff_true, decide_true, decide_false, Bool.not_true, Bool.not_false, beq_self_eq_true, bne_self_eq_false, not_true_eq_false, not_false_eq_true, Int.reduceEq, hvc'] <;> with_reducible rfl); all_goals (intro h; first | (exfalso; omega) | (simp only [h, decide_true, decide_false, not_true, not_false_iff])))
      | (refine aC_condF ?_ ?_; (· simp (disch := first | omega | (simp only [go_sem]; omega)) only [go_sem, get_miss, seval, reduceCtorEq, eq_self_iff_true, decide_true, decide_false, Bool.not_true, Bool.not_false, beq_self_eq_true, bne_self_eq_false, not_true_eq_false, not_false_eq_true, Int.reduceEq, hvc']))
      | (refine aC_condP (by simp (disch := first | omega | (simp only [go_sem]; omega)) only [go_sem, get_miss, seval, reduceCtorEq, eq_self_iff_true, decide_true, decide_false, Bool.not_true, Bool.not_false, beq_self_eq_true, bne_self_eq_false, not_true_eq_false, not_false_eq_true, Int.reduceEq, hvc'] <;> with_reducible rfl) ?_ ?_ <;> (intro h; first | (exfalso; omega) | skip))
      | (apply aL_pure cxG (g1); (case hg => (simp (disch := first | omega | (simp only [go_sem]; omega)) only [go_sem, get_miss, seval, reduceCtorEq, eq_self_iff_true, decide_true, decide_false, Bool.not_true, Bool.not_false, beq_self_eq_true, bne_self_eq_false, not_true_eq_false, not_false_eq_true, Int.reduceEq, hvc'])); (case hx => (simp (disch := first | omega | (simp only [go_sem]; omega)) only [go_sem, get_miss, seval, reduceCtorEq, eq_self_iff_true, decide_true, decide_false, Bool.not_true, Bool.not_false, beq_self_eq_true, bne_self_eq_false, not_true_eq_false, not_false_eq_true, Int.reduceEq, hvc'] <;> with_reducible rfl)); (case ha => (simp (disch := first | omega | (simp only [go_sem]; omega)) only [go_sem, get_miss, seval, reduceCtorEq, eq_self_iff_true, decide_true, decide_false, Bool.not_true, Bool.not_false, beq_self_eq_true, bne_self_eq_false, not_true_eq_false, not_false_eq_true, Int.reduceEq, hvc'] <;> with_reducible rfl)); (case he => (simp only [go_sem] <;> with_reducible rfl)); (case hcl => (simp)); (case hf => (simp only [go_sem] <;> with_reducible rfl)))
      | (apply aL_pure cxG (g2); (case hg => (simp (disch := first | omega | (simp only [go_sem]; omega)) only [go_sem, get_miss, seval, reduceCtorEq, eq_self_iff_true, decide_true, decide_false, Bool.not_true, Bool.not_false, beq_self_eq_true, bne_self_eq_false, not_true_eq_false, not_false_eq_true, Int.reduceEq, hvc'])); (case hx => (simp (disch := first | omega | (simp only [go_sem]; omega)) only [go_sem, get_miss, seval, reduceCtorEq, eq_self_iff_true, decide_true, decide_false, Bool.not_true, Bool.not_false, beq_self_eq_true, bne_self_eq_false, not_true_eq_false, not_false_eq_true, Int.reduceEq, hvc'] <;> with_reducible rfl)); (case ha => (simp (disch := first | omega | (simp only [go_sem]; omega)) only [go_sem, get_miss, seval, reduceCtorEq, eq_self_iff_true, decide_true, decide_false, Bool.not_true, Bool.not_false, beq_self_eq_true, bne_self_eq_false, not_true_eq_false, not_false_eq_true, Int.reduceEq, hvc'] <;> with_reducible rfl)); (case he => (simp only [go_sem] <;> with_reducible rfl)); (case hcl => (simp)); (case hf => (simp only [go_sem] <;> with_reducible rfl)))
      | (apply aL_pure cxG g3; (case hg => (simp (disch := first | omega | (simp only [go_sem]; omega)) only [go_sem, get_miss, seval, reduceCtorEq, eq_self_iff_true, decide_true, decide_false, Bool.not_true, Bool.not_false, beq_self_eq_true, bne_self_eq_false, not_true_eq_false, not_false_eq_true, Int.reduceEq, hvc'])); (case hx => (simp (disch := first | omega | (simp only [go_sem]; omega)) only [go_sem, get_miss, seval, reduceCtorEq, eq_self_iff_true, decide_true, decide_false, Bool.not_true, Bool.not_false, beq_self_eq_true, bne_self_eq_false, not_true_eq_false, not_false_eq_true, Int.reduceEq, hvc'] <;> with_reducible rfl)); (case ha => (simp (disch := first | omega | (simp only [go_sem]; omega)) only [go_sem, get_miss, seval, reduceCtorEq, eq_self_iff_true, decide_true, decide_false, Bool.not_true, Bool.not_false, beq_self_eq_true, bne_self_eq_false, not_true_eq_false, not_false_eq_true, Int.reduceEq, hvc'] <;> with_reducible rfl)); (case he => (simp only [go_sem] <;> with_reducible rfl)); (case hcl => (simp; first | exact hvc | exact ⟨hvc, hvc⟩)); (case hf => (simp only [go_sem] <;> with_reducible rfl)))
      | (apply aL_pure cxG (ne); (case hg => (simp (disch := first | omega | (simp only [go_sem]; omega)) only [go_sem, get_miss, seval, reduceCtorEq, eq_self_iff_true, decide_true, decide_false, Bool.not_true, Bool.not_false, beq_self_eq_true, bne_self_eq_false, not_true_eq_false, not_false_eq_true, Int.reduceEq, hvc'])); (case hx => (simp (disch := first | omega | (simp only [go_sem]; omega)) only [go_sem, get_miss, seval, reduceCtorEq, eq_self_iff_true, decide_true, decide_false, Bool.not_true, Bool.not_false, beq_self_eq_true, bne_self_eq_false, not_true_eq_false, not_false_eq_true, Int.reduceEq, hvc'] <;> with_reducible rfl)); (case ha => (simp (disch := first | omega | (simp only [go_sem]; omega)) only [go_sem, get_miss, seval, reduceCtorEq, eq_self_iff_true, decide_true, decide_false, Bool.not_true, Bool.not_false, beq_self_eq_true, bne_self_eq_false, not_true_eq_false, not_false_eq_true, Int.reduceEq, hvc'] <;> with_reducible rfl)); (case he => (simp only [go_sem] <;> with_reducible rfl)); (case hcl => (simp)); (case hf => (simp only [go_sem] <;> with_reducible rfl)))
      | (apply aL_pure cxG (hlist); (case hg => (simp (disch := first | omega | (simp only [go_sem]; omega)) only [go_sem, get_miss, seval, reduceCtorEq, eq_self_iff_true, decide_true, decide_false, Bool.not_true, Bool.not_false, beq_self_eq_true, bne_self_eq_false, not_true_eq_false, not_false_eq_true, Int.reduceEq, hvc'])); (case hx => (simp (disch := first | omega | (simp only [go_sem]; omega)) only [go_sem, get_miss, seval, reduceCtorEq, eq_self_iff_true, decide_true, decide_false, Bool.not_true, Bool.not_false, beq_self_eq_true, bne_self_eq_false, not_true_eq_false, not_false_eq_true, Int.reduceEq, hvc'] <;> with_reducible rfl)); (case ha => (simp (disch := first | omega | (simp only [go_sem]; omega)) only [go_sem, get_miss, seval, reduceCtorEq, eq_self_iff_true, decide_true, decide_false, Bool.not_true, Bool.not_false, beq_self_eq_true, bne_self_eq_false, not_true_eq_false, not_false_eq_true, Int.reduceEq, hvc'] <;> with_reducible rfl)); (case he => (simp only [go_sem] <;> with_reducible rfl)); (case hcl => (simp)); (case hf => (simp only [go_sem] <;> with_reducible rfl)))
      | fail)
    · clear g1 g2 g3 ne hlist
      refine loop_rule (cxOk.wp _ _) (σ := Nat) (fun k => [(13, .int .i64 k), (12, .int .i64 2), (11, .str []), (0, .sl 7 nl (cvs l) .any)])
        (fun _ => []) (fun k => l.length - k) (fun k => k ≤ l.length ∧ ∀ c ∈ l.take k, MayC c.1 c.2) 0 (GStep.refl _ _) ⟨⟨Nat.zero_le _, by simp⟩, Sub.of_all (by simp [Fr.get, frame0]), rfl⟩ ?_
      rintro k ⟨hkl, hJ⟩
      by_cases hlt : k < l.length
      · have hgd := getD_cvs l k .any hlt
        have hcw := hw _ (List.getElem_mem hlt)
        have hx6 : l[k].2.length = 6 := hcw.1
        have hm := ref_May l[k].1 l[k].2 hx6
        by_cases hMk : MayC l[k].1 l[k].2
        · rw [decide_eq_true hMk] at hm
          have hJ' : ∀ c ∈ l.take (k + 1), MayC c.1 c.2 := by
            rw [List.take_succ_eq_append_getElem hlt]
            intro c hc
            rcases List.mem_append.1 hc with h | h
            · exact hJ c h
            · rw [List.mem_singleton.1 h]; exact hMk
          clear hMk hcw
          generalize l[k] = c at *
          repeat' (first
            | refine aC_seq ?_
            | refine aC_reg rfl ?_
            | refine aC_block ?_
            | refine aC_skip ?_
            | refine thenQ_normal ?_
            | refine blockQ_normal ?_
            | refine aL_nil ?_
            | (apply aL_step; (· exact True.intro); (· simp (disch := first | omega | (simp only [go_sem]; omega)) only [go_sem, get_miss, seval, reduceCtorEq, hgd]); (· simp (disch := first | omega | (simp only [go_sem]; omega)) only [go_sem, get_miss, seval, reduceCtorEq, hgd] <;> with_reducible rfl); (· simp only [go_sem] <;> with_reducible rfl))
            | (refine aC_condF ?_ ?_; (· simp (disch := first | omega | (simp only [go_sem]; omega)) only [go_sem, get_miss, seval, reduceCtorEq, hgd]))
            | (refine aC_condP (by simp (disch := first | omega | (simp only [go_sem]; omega)) only [go_sem, get_miss, seval, reduceCtorEq, hgd] <;> with_reducible rfl) ?_ ?_ <;> (intro h; first | (exfalso; omega) | skip))
            | (apply aL_pure cxG (hm); (case hg => (simp (disch := first | omega | (simp only [go_sem]; omega)) only [go_sem, get_miss, seval, reduceCtorEq, hgd])); (case hx => (simp (disch := first | omega | (simp only [go_sem]; omega)) only [go_sem, get_miss, seval, reduceCtorEq, hgd] <;> with_reducible rfl)); (case ha => (simp (disch := first | omega | (simp only [go_sem]; omega)) only [go_sem, get_miss, seval, reduceCtorEq, hgd] <;> with_reducible rfl)); (case he => (simp only [go_sem] <;> with_reducible rfl)); (case hcl => (simp)); (case hf => (simp only [go_sem] <;> with_reducible rfl)))
            | fail)
          all_goals try (first | exact True.intro | exact not_false | omega)
          all_goals try (simp (disch := first | omega | (simp only [go_sem]; omega)) only [go_sem, get_miss, seval, reduceCtorEq] <;> first | exact True.intro | omega)
          all_goals first | omega | exact ⟨k + 1, ⟨by omega, hJ'⟩, Sub.of_all (by simp [Fr.get]), rfl, by omega⟩
        · rw [decide_eq_false hMk] at hm
          clear hMk hcw
          generalize l[k] = c at *
          repeat' (first
            | refine aC_seq ?_
            | refine aC_reg rfl ?_
            | refine aC_block ?_
            | refine aC_skip ?_
            | refine aC_ret ?_
            | refine thenQ_normal ?_
            | refine thenQ_ret ?_
            | refine blockQ_ret ?_
            | refine aL_nil ?_
            | (apply aL_step; (· exact True.intro); (· simp (disch := first | omega | (simp only [go_sem]; omega)) only [go_sem, get_miss, seval, reduceCtorEq, eq_self_iff_true, decide_true, decide_false, Bool.not_true, Bool.not_false, beq_self_eq_true, bne_self_eq_false, not_true_eq_false, not_false_eq_true, Int.reduceEq, hgd]); (· simp (disch := first | omega | (simp only [go_sem]; omega)) only [go_sem, get_miss, seval, reduceCtorEq, eq_self_iff_true, decide_true, decide_false, Bool.not_true, Bool.not_false, beq_self_eq_true, bne_self_eq_false, not_true_eq_false, not_false_eq_true, Int.reduceEq, hgd] <;> with_reducible rfl); (· simp only [go_sem] <;> with_reducible rfl))
            | (refine aC_condT ?_ ?_; (· simp (disch := first | omega | (simp only [go_sem]; omega)) only [go_sem, get_miss, seval, reduceCtorEq, eq_self_iff_true, decide_true, decide_false, Bool.not_true, Bool.not_false, beq_self_eq_true, bne_self_eq_false, not_true_eq_false, not_false_eq_true, Int.reduceEq, hgd]))
            | (refine aC_condP (by simp (disch := first | omega | (simp only [go_sem]; omega)) only [go_sem, get_miss, seval, reduceCtorEq, eq_self_iff_true, decide_true, decide_false, Bool.not_true, Bool.not_false, beq_self_eq_true, bne_self_eq_false, not_true_eq_false, not_false_eq_true, Int.reduceEq, hgd] <;> with_reducible rfl) ?_ ?_ <;> (intro h; first | (exfalso; omega) | skip))
            | (apply aL_pure cxG (hm); (case hg => (simp (disch := first | omega | (simp only [go_sem]; omega)) only [go_sem, get_miss, seval, reduceCtorEq, eq_self_iff_true, decide_true, decide_false, Bool.not_true, Bool.not_false, beq_self_eq_true, bne_self_eq_false, not_true_eq_false, not_false_eq_true, Int.reduceEq, hgd])); (case hx => (simp (disch := first | omega | (simp only [go_sem]; omega)) only [go_sem, get_miss, seval, reduceCtorEq, eq_self_iff_true, decide_true, decide_false, Bool.not_true, Bool.not_false, beq_self_eq_true, bne_self_eq_false, not_true_eq_false, not_false_eq_true, Int.reduceEq, hgd] <;> with_reducible rfl)); (case ha => (simp (disch := first | omega | (simp only [go_sem]; omega)) only [go_sem, get_miss, seval, reduceCtorEq, eq_self_iff_true, decide_true, decide_false, Bool.not_true, Bool.not_false, beq_self_eq_true, bne_self_eq_false, not_true_eq_false, not_false_eq_true, Int.reduceEq, hgd] <;> with_reducible rfl)); (case he => (simp only [go_sem] <;> with_reducible rfl)); (case hcl => (simp)); (case hf => (simp only [go_sem] <;> with_reducible rfl)))
            | (apply aL_pure cxG (n2); (case hg => (simp (disch := first | omega | (simp only [go_sem]; omega)) only [go_sem, get_miss, seval, reduceCtorEq, eq_self_iff_true, decide_true, decide_false, Bool.not_true, Bool.not_false, beq_self_eq_true, bne_self_eq_false, not_true_eq_false, not_false_eq_true, Int.reduceEq, hgd])); (case hx => (simp (disch := first | omega | (simp only [go_sem]; omega)) only [go_sem, get_miss, seval, reduceCtorEq, eq_self_iff_true, decide_true, decide_false, Bool.not_true, Bool.not_false, beq_self_eq_true, bne_self_eq_false, not_true_eq_false, not_false_eq_true, Int.reduceEq, hgd] <;> with_reducible rfl)); (case ha => (simp (disch := first | omega | (simp only [go_sem]; omega)) only [go_sem, get_miss, seval, reduceCtorEq, eq_self_iff_true, decide_true, decide_false, Bool.not_true, Bool.not_false, beq_self_eq_true, bne_self_eq_false, not_true_eq_false, not_false_eq_true, Int.reduceEq, hgd] <;> with_reducible rfl)); (case he => (simp only [go_sem] <;> with_reducible rfl)); (case hcl => (simp)); (case hf => (simp only [go_sem] <;> with_reducible rfl)))
            | (apply aL_pure cxG (hk); (case hg => (simp (disch := first | omega | (simp only [go_sem]; omega)) only [go_sem, get_miss, seval, reduceCtorEq, eq_self_iff_true, decide_true, decide_false, Bool.not_true, Bool.not_false, beq_self_eq_true, bne_self_eq_false, not_true_eq_false, not_false_eq_true, Int.reduceEq, hgd])); (case hx => (simp (disch := first | omega | (simp only [go_sem]; omega)) only [go_sem, get_miss, seval, reduceCtorEq, eq_self_iff_true, decide_true, decide_false, Bool.not_true, Bool.not_false, beq_self_eq_true, bne_self_eq_false, not_true_eq_false, not_false_eq_true, Int.reduceEq, hgd] <;> with_reducible rfl)); (case ha => (simp (disch := first | omega | (simp only [go_sem]; omega)) only [go_sem, get_miss, seval, reduceCtorEq, eq_self_iff_true, decide_true, decide_false, Bool.not_true, Bool.not_false, beq_self_eq_true, bne_self_eq_false, not_true_eq_false, not_false_eq_true, Int.reduceEq, hgd] <;> with_reducible rfl)); (case he => (simp only [go_sem] <;> with_reducible rfl)); (case hcl => (simp)); (case hf => (simp only [go_sem] <;> with_reducible rfl)))
            | fail)
          all_goals try (first | exact True.intro | exact not_false | omega)
          all_goals try (simp (disch := first | omega | (simp only [go_sem]; omega)) only [go_sem, get_miss, seval, reduceCtorEq] <;> first | exact True.intro | omega)
          all_goals (clear hm n2 hk)
          all_goals try (simp (disch := first | omega | (simp only [go_sem]; omega)) only [go_sem, get_miss, seval, reduceCtorEq])
          all_goals try simp
      · have hk' : k = l.length := by omega
        subst hk'
        rw [List.take_length] at hJ
        exact absurd hJ hM
    all_goals first | trivial | omega
end
end Go.Am
