/- Lists of calls: call.List, the document's List. -/
import Derived.Test.YtikookfljnilpaaDoorL13
import Derived.Test.YtikookfljnilpaaDoorC31
set_option linter.unusedVariables false
set_option linter.unusedSimpArgs false
namespace Go.Am
open Go Go.Proofs
set_option linter.unusedSimpArgs false
set_option linter.unusedVariables false
set_option maxHeartbeats 8000000
set_option maxRecDepth 100000
section
attribute [local irreducible] aC aL thenQ blockQ scopeQ ALoop AWp

theorem cells_map (i : Nat) : (AVal.map i).cells = [.map i] := rfl
theorem okc_map (i : Nat) : (AVal.map i).okc ↔ True := okc_one rfl rfl
attribute [go_sem] cells_map okc_map
theorem setElems7 (x c : AVal) (l : List Nat) (h : l.length = 6) : setElems 7 [x] [(0, .agg (c :: wl l))] = some [.agg (c :: wl l)] := by simp [setElems, AVal.cells, h]
attribute [go_sem] setElems7
abbrev Ca := Int × List Nat
def cv1 (c : Ca) : AVal := .agg (.int .i64 c.1 :: wl c.2)
def cvs (l : List Ca) : List AVal := l.map cv1
def WfC (c : Ca) : Prop := c.2.length = 6 ∧ ∀ x ∈ c.2, x < 18446744073709551616
theorem length_cvs (l : List Ca) : (cvs l).length = l.length := by simp [cvs]
theorem getD_cvs (l : List Ca) (k : Nat) (d : AVal) (h : k < l.length) : (cvs l).getD k d = .agg (.int .i64 l[k].1 :: wl l[k].2) := by simp [cvs, List.getD, h, cv1]
theorem closed_cv1 (c : Ca) : Closed (cv1 c) := by simp [cv1]
theorem closed_cvs (l : List Ca) : (∀ x ∈ cvs l, Closed x) ↔ True := ⟨fun _ => trivial, fun _ x hx => by obtain ⟨c, _, rfl⟩ := List.mem_map.1 hx; exact closed_cv1 c⟩
theorem bels_cvs (n : Nat) (l : List Ca) : bels n (cvs l) = true := bels_iff.2 fun x hx => by obtain ⟨c, _, rfl⟩ := List.mem_map.1 hx; simp [cv1, bel, bels, bels_wl]
theorem append_cvs (a : List Ca) (c : Ca) : cvs a ++ [.agg (.int .i64 c.1 :: wl c.2)] = cvs (a ++ [c]) := by simp [cvs, cv1]
attribute [go_sem] length_cvs
attribute [simp] closed_cvs

theorem list_may {c : Ca} (hc : WfC c) : ACall cx 52 [.agg (.int .i64 c.1 :: wl c.2), .ptr 1 0] [.mpx TABLE 21, .cells [.map 0] 66] (.bool (!decide (MayC c.1 c.2))) [.mpx TABLE 21, .cells [.map 0] 66] := by
  obtain ⟨op, xs⟩ := c
  have hx : xs.length = 6 := hc.1
  simp only
  have hm := call_may (op := op) hx (S := [.mpx TABLE 21, .cells [.map 0] 66, .cells (.int .i64 op :: wl xs) 32]) (i := 0) rfl
  generalize decide (MayC op xs) = b at *
  have key : ACall cx 52 [.agg (.int .i64 op :: wl xs), .ptr 1 0] [.mpx TABLE 21, .cells [.map 0] 66] (.bool (!b)) [.mpx TABLE 21, .cells [.map 0] 66, .cells (.int .i64 op :: wl xs) 32] := by
    refine acall_fn cxOk Tryd.func52 (by kernel_rfl) (fun _ => false) (fun _ => none) (by kernel_rfl) (Nat.le_of_ble_eq_true (by kernel_rfl)) ?_
    dsimp only [LB, Tryd.f52, lite, nextOf, Option.isNone, Bool.not_true, Bool.not_false, Bool.and_true, Bool.true_and, Bool.false_and, Bool.and_self, Bool.false_eq_true, if_false, if_true, ↓reduceIte, liteO, List.map, Option.map, frame0, List.zipIdx, Nat.reduceAdd]
    try simp only [List.getElem?_toArray, List.getElem?_cons_succ, List.getElem?_cons_zero, Option.bind_some]
    repeat' (first
      | refine aC_seq ?_
      | refine aC_reg rfl ?_
      | refine aC_ret ?_
      | refine thenQ_normal ?_
      | refine aL_nil ?_
      | (apply aL_step; (· exact True.intro); (· simp (disch := first | omega | (simp only [go_sem]; omega)) only [go_sem, get_miss, seval, reduceCtorEq]); (· simp (disch := first | omega | (simp only [go_sem]; omega)) only [go_sem, get_miss, seval, reduceCtorEq] <;> with_reducible rfl); (· simp only [go_sem] <;> with_reducible rfl))
      | (apply aL_acall (hm); (case hg => (simp (disch := first | omega | (simp only [go_sem]; omega)) only [go_sem, get_miss, seval, reduceCtorEq])); (case hx => (simp (disch := first | omega | (simp only [go_sem]; omega)) only [go_sem, get_miss, seval, reduceCtorEq] <;> with_reducible rfl)); (case ha => (simp (disch := first | omega | (simp only [go_sem]; omega)) only [go_sem, get_miss, seval, reduceCtorEq] <;> with_reducible rfl)); (case he => (with_reducible rfl)); (case hp => (rfl)); (case hf => (simp only [go_sem] <;> with_reducible rfl)))
      | fail)
    all_goals try (first | exact True.intro | exact not_false | omega)
    all_goals try (simp (disch := first | omega | (simp only [go_sem]; omega)) only [go_sem, get_miss, seval, reduceCtorEq] <;> first | exact True.intro | omega)
    all_goals (clear hm)
    all_goals try (simp (disch := first | omega | (simp only [go_sem]; omega)) only [go_sem, get_miss, seval, reduceCtorEq])
    all_goals try simp
  exact ACall.drop cxG key (n := 2) (by simp) rfl (by simp [belS, belB, bel, bels, Nat.blt]; kernel_rfl)

theorem list_index (nl : Bool) (l : List Ca) (hw : ∀ c ∈ l, WfC c) (hl : l.length ≤ 1048576) : ∃ r : Int, (0 ≤ r ↔ ∃ c ∈ l, ¬ MayC c.1 c.2) ∧
    ACall cx 65 [.sl 7 nl (cvs l) .any, .fn (.func 52) [] [.ptr 1 0]] [.mpx TABLE 21, .cells [.map 0] 66] (.int .i64 r) [.mpx TABLE 21, .cells [.map 0] 66] := by
  have main : ∀ r : Int, ((r = -1 ∧ ∀ c ∈ l, MayC c.1 c.2) ∨ (∃ k, ∃ h : k < l.length, r = (k : Int) ∧ ¬ MayC l[k].1 l[k].2 ∧ ∀ c ∈ l.take k, MayC c.1 c.2)) →
      ACall cx 65 [.sl 7 nl (cvs l) .any, .fn (.func 52) [] [.ptr 1 0]] [.mpx TABLE 21, .cells [.map 0] 66] (.int .i64 r) [.mpx TABLE 21, .cells [.map 0] 66] := by
    intro r hr
    have hyes : ∀ k (h : k < l.length), ¬ MayC l[k].1 l[k].2 → (∀ c ∈ l.take k, MayC c.1 c.2) → r = (k : Int) := by
      intro k hk h1 h2
      rcases hr with ⟨_, h⟩ | ⟨q, hq, rfl, g1, g2⟩
      · exact absurd (h _ (List.getElem_mem hk)) h1
      · rcases Nat.lt_trichotomy q k with h | h | h
        · exact absurd (h2 _ (List.mem_take_iff_getElem.2 ⟨q, by omega, rfl⟩)) g1
        · rw [h]
        · exact absurd (g2 _ (List.mem_take_iff_getElem.2 ⟨k, by omega, rfl⟩)) h1
    have hno : (∀ c ∈ l, MayC c.1 c.2) → r = -1 := by
      intro h
      rcases hr with ⟨e, _⟩ | ⟨q, hq, rfl, g1, _⟩
      · exact e
      · exact absurd (h _ (List.getElem_mem hq)) g1
    clear hr
    refine acall_fn cxOk Tryd.func65 (by kernel_rfl) (fun _ => false) (fun _ => none) (by kernel_rfl) (Nat.le_of_ble_eq_true (by kernel_rfl)) ?_
    dsimp only [LB, Tryd.f65, lite, nextOf, Option.isNone, Bool.not_true, Bool.not_false, Bool.and_true, Bool.true_and, Bool.false_and, Bool.and_self, Bool.false_eq_true, if_false, if_true, ↓reduceIte, liteO, List.map, Option.map, frame0, List.zipIdx, Nat.reduceAdd]
    try simp only [List.getElem?_toArray, List.getElem?_cons_succ, List.getElem?_cons_zero, Option.bind_some]
    repeat' (first
      | refine aC_seq ?_
      | refine aC_reg rfl ?_
      | refine aC_block ?_
      | refine aC_loop ?_
      | refine thenQ_normal ?_
      | refine aL_nil ?_
      | (apply aL_step; (· exact True.intro); (· simp (disch := first | omega | (simp only [go_sem]; omega)) only [go_sem, get_miss, seval, reduceCtorEq]); (· simp (disch := first | omega | (simp only [go_sem]; omega)) only [go_sem, get_miss, seval, reduceCtorEq] <;> with_reducible rfl); (· simp only [go_sem] <;> with_reducible rfl))
      | fail)
    · refine loop_rule (cxOk.wp _ _) (σ := Nat) (fun k => [(8, .int .i64 k), (7, .int .i64 l.length), (1, .fn (.func 52) [] [.ptr 1 0]), (0, .sl 7 nl (cvs l) .any)])
        (fun _ => [.mpx TABLE 21, .cells [.map 0] 66]) (fun k => l.length - k) (fun k => k ≤ l.length ∧ ∀ c ∈ l.take k, MayC c.1 c.2) 0 (GStep.refl _ _) ⟨⟨Nat.zero_le _, by simp⟩, Sub.of_all (by simp [Fr.get, frame0]), rfl⟩ ?_
      rintro k ⟨hk, hJ⟩
      by_cases hlt : k < l.length
      · have hgd := getD_cvs l k .any hlt
        have hcw := hw _ (List.getElem_mem hlt)
        have hm := list_may hcw
        have hx6 : l[k].2.length = 6 := hcw.1
        by_cases hM : MayC l[k].1 l[k].2
        · rw [decide_eq_true hM] at hm
          have hJ' : ∀ c ∈ l.take (k + 1), MayC c.1 c.2 := by
            rw [List.take_succ_eq_append_getElem hlt]
            intro c hc
            rcases List.mem_append.1 hc with h | h
            · exact hJ c h
            · rw [List.mem_singleton.1 h]; exact hM
          clear hyes hno hM hcw
          generalize l[k] = c at *
          repeat' (first
            | refine aC_seq ?_
            | refine aC_reg rfl ?_
            | refine aC_block ?_
            | refine aC_skip ?_
            | refine thenQ_normal ?_
            | refine blockQ_normal ?_
            | refine aL_nil ?_
            | (apply aL_step; (· exact True.intro); (· simp (disch := first | omega | (simp only [go_sem]; omega)) only [go_sem, get_miss, seval, reduceCtorEq, hgd]); (· simp (disch := first | omega | (simp only [go_sem]; omega)) only [go_sem, get_miss, seval, reduceCtorEq, hgd] <;> with_reducible rfl); (· simp only [go_sem] <;> with_reducible rfl))
            | (refine aC_condF ?_ ?_; (· simp (disch := first | omega | (simp only [go_sem]; omega)) only [go_sem, get_miss, seval, reduceCtorEq, hgd]))
            | (refine aC_condP (by simp (disch := first | omega | (simp only [go_sem]; omega)) only [go_sem, get_miss, seval, reduceCtorEq, hgd] <;> with_reducible rfl) ?_ ?_ <;> (intro h; first | (exfalso; omega) | skip))
            | (apply aL_acall (hm); (case hg => (simp (disch := first | omega | (simp only [go_sem]; omega)) only [go_sem, get_miss, seval, reduceCtorEq, hgd])); (case hx => (simp (disch := first | omega | (simp only [go_sem]; omega)) only [go_sem, get_miss, seval, reduceCtorEq, hgd] <;> with_reducible rfl)); (case ha => (simp (disch := first | omega | (simp only [go_sem]; omega)) only [go_sem, get_miss, seval, reduceCtorEq, hgd] <;> with_reducible rfl)); (case he => (with_reducible rfl)); (case hp => (rfl)); (case hf => (simp only [go_sem] <;> with_reducible rfl)))
            | fail)
          all_goals try (first | exact True.intro | exact not_false | omega)
          all_goals try (simp (disch := first | omega | (simp only [go_sem]; omega)) only [go_sem, get_miss, seval, reduceCtorEq] <;> first | exact True.intro | omega)
          all_goals first | omega | exact ⟨k + 1, ⟨by omega, hJ'⟩, Sub.of_all (by simp [Fr.get]), rfl, by omega⟩
        · rw [decide_eq_false hM] at hm
          rw [hyes k hlt hM hJ]
          clear hyes hno hM hcw
          generalize l[k] = c at *
          repeat' (first
            | refine aC_seq ?_
            | refine aC_reg rfl ?_
            | refine aC_block ?_
            | refine aC_skip ?_
            | refine aC_ret ?_
            | refine thenQ_normal ?_
            | refine thenQ_ret ?_
            | refine blockQ_ret ?_
            | refine aL_nil ?_
            | (apply aL_step; (· exact True.intro); (· simp (disch := first | omega | (simp only [go_sem]; omega)) only [go_sem, get_miss, seval, reduceCtorEq, hgd]); (· simp (disch := first | omega | (simp only [go_sem]; omega)) only [go_sem, get_miss, seval, reduceCtorEq, hgd] <;> with_reducible rfl); (· simp only [go_sem] <;> with_reducible rfl))
            | (refine aC_condT ?_ ?_; (· simp (disch := first | omega | (simp only [go_sem]; omega)) only [go_sem, get_miss, seval, reduceCtorEq, hgd]))
            | (refine aC_condP (by simp (disch := first | omega | (simp only [go_sem]; omega)) only [go_sem, get_miss, seval, reduceCtorEq, hgd] <;> with_reducible rfl) ?_ ?_ <;> (intro h; first | (exfalso; omega) | skip))
            | (apply aL_acall (hm); (case hg => (simp (disch := first | omega | (simp only [go_sem]; omega)) only [go_sem, get_miss, seval, reduceCtorEq, hgd])); (case hx => (simp (disch := first | omega | (simp only [go_sem]; omega)) only [go_sem, get_miss, seval, reduceCtorEq, hgd] <;> with_reducible rfl)); (case ha => (simp (disch := first | omega | (simp only [go_sem]; omega)) only [go_sem, get_miss, seval, reduceCtorEq, hgd] <;> with_reducible rfl)); (case he => (with_reducible rfl)); (case hp => (rfl)); (case hf => (simp only [go_sem] <;> with_reducible rfl)))
            | fail)
          all_goals try (first | exact True.intro | exact not_false | omega)
          all_goals try (simp (disch := first | omega | (simp only [go_sem]; omega)) only [go_sem, get_miss, seval, reduceCtorEq] <;> first | exact True.intro | omega)
          all_goals try (simp (disch := first | omega | (simp only [go_sem]; omega)) only [go_sem, get_miss, seval, reduceCtorEq])
          all_goals try simp
      · have hk' : k = l.length := by omega
        subst hk'
        rw [hno (by rw [List.take_length] at hJ; exact hJ)]
        clear hyes hno
        repeat' (first
          | refine aC_seq ?_
          | refine aC_reg rfl ?_
          | refine aC_exit ?_
          | refine aC_ret ?_
          | refine thenQ_normal ?_
          | refine thenQ_exit ?_
          | refine blockQ_hit ?_
          | refine aL_nil ?_
          | (apply aL_step; (· exact True.intro); (· simp (disch := first | omega | (simp only [go_sem]; omega)) only [go_sem, get_miss, seval, reduceCtorEq]); (· simp (disch := first | omega | (simp only [go_sem]; omega)) only [go_sem, get_miss, seval, reduceCtorEq] <;> with_reducible rfl); (· simp only [go_sem] <;> with_reducible rfl))
          | (refine aC_condP (by simp (disch := first | omega | (simp only [go_sem]; omega)) only [go_sem, get_miss, seval, reduceCtorEq] <;> with_reducible rfl) ?_ ?_ <;> (intro h; first | (exfalso; omega) | skip))
          | fail)
        all_goals try (first | exact True.intro | exact not_false | omega)
        all_goals try (simp (disch := first | omega | (simp only [go_sem]; omega)) only [go_sem, get_miss, seval, reduceCtorEq] <;> first | exact True.intro | omega)
        all_goals try (simp (disch := first | omega | (simp only [go_sem]; omega)) only [go_sem, get_miss, seval, reduceCtorEq])
        all_goals try simp
    all_goals first | trivial | omega
  by_cases h : ∀ c ∈ l, MayC c.1 c.2
  · exact ⟨-1, ⟨fun h => by omega, fun ⟨c, hc, hne⟩ => absurd (h c hc) hne⟩, main _ (.inl ⟨rfl, h⟩)⟩
  · have : ∃ k, ∃ h : k < l.length, ¬ MayC l[k].1 l[k].2 ∧ ∀ c ∈ l.take k, MayC c.1 c.2 := by
      clear main hl hw
      induction l with
      | nil => exact absurd (fun c hc => by cases hc) h
      | cons y l ih =>
        by_cases hy : MayC y.1 y.2
        · obtain ⟨k, hk, h1, h2⟩ := ih (fun k => h (fun c hc => by
            rcases List.mem_cons.1 hc with rfl | hc
            · exact hy
            · exact k c hc))
          exact ⟨k + 1, by simpa using hk, by simpa using h1, fun c hc => by
            rw [List.take_succ_cons] at hc
            rcases List.mem_cons.1 hc with rfl | hc
            · exact hy
            · exact h2 c hc⟩
        · exact ⟨0, by simp, by simpa using hy, fun c hc => by simp at hc⟩
    obtain ⟨k, hk, h1, h2⟩ := this
    exact ⟨(k : Int), ⟨fun _ => ⟨_, List.getElem_mem hk, h1⟩, fun _ => by omega⟩, main _ (.inr ⟨k, hk, rfl, h1, h2⟩)⟩

theorem list_contains (nl : Bool) (l : List Ca) (hw : ∀ c ∈ l, WfC c) (hl : l.length ≤ 1048576) :
    ACall cx 51 [.sl 7 nl (cvs l) .any, .fn (.func 52) [] [.ptr 1 0]] [.mpx TABLE 21, .cells [.map 0] 66] (.bool (decide (∃ c ∈ l, ¬ MayC c.1 c.2))) [.mpx TABLE 21, .cells [.map 0] 66] := by
  obtain ⟨r, h1, h2⟩ := list_index nl l hw hl
  by_cases h : ∃ c ∈ l, ¬ MayC c.1 c.2
  case' pos => rw [decide_eq_true h]; have hr := h1.2 h
  case' neg => rw [decide_eq_false h]; have hr : ¬ 0 ≤ r := fun k => h (h1.1 k)
  all_goals
  clear h h1
  refine acall_fn cxOk Tryd.func51 (by kernel_rfl) (fun _ => false) (fun _ => none) (by kernel_rfl) (Nat.le_of_ble_eq_true (by kernel_rfl)) ?_
  dsimp only [LB, Tryd.f51, lite, nextOf, Option.isNone, Bool.not_true, Bool.not_false, Bool.and_true, Bool.true_and, Bool.false_and, Bool.and_self, Bool.false_eq_true, if_false, if_true, ↓reduceIte, liteO, List.map, Option.map, frame0, List.zipIdx, Nat.reduceAdd]
  try simp only [List.getElem?_toArray, List.getElem?_cons_succ, List.getElem?_cons_zero, Option.bind_some]
  repeat' (first
    | refine aC_seq ?_
    | refine aC_reg rfl ?_
    | refine aC_ret ?_
    | refine thenQ_normal ?_
    | refine aL_nil ?_
    | (apply aL_step; (· exact True.intro); (· simp (disch := first | omega | (simp only [go_sem]; omega)) only [go_sem, get_miss, seval, reduceCtorEq]); (· simp (disch := first | omega | (simp only [go_sem]; omega)) only [go_sem, get_miss, seval, reduceCtorEq] <;> with_reducible rfl); (· simp only [go_sem] <;> with_reducible rfl))
    | (apply aL_acall (h2); (case hg => (simp (disch := first | omega | (simp only [go_sem]; omega)) only [go_sem, get_miss, seval, reduceCtorEq])); (case hx => (simp (disch := first | omega | (simp only [go_sem]; omega)) only [go_sem, get_miss, seval, reduceCtorEq] <;> with_reducible rfl)); (case ha => (simp (disch := first | omega | (simp only [go_sem]; omega)) only [go_sem, get_miss, seval, reduceCtorEq] <;> with_reducible rfl)); (case he => (with_reducible rfl)); (case hp => (rfl)); (case hf => (simp only [go_sem] <;> with_reducible rfl)))
    | fail)
  all_goals try (first | exact True.intro | exact not_false | omega)
  all_goals try (simp (disch := first | omega | (simp only [go_sem]; omega)) only [go_sem, get_miss, seval, reduceCtorEq] <;> first | exact True.intro | omega)
  all_goals (clear h2)
  all_goals try (simp (disch := first | omega | (simp only [go_sem]; omega)) only [go_sem, get_miss, seval, reduceCtorEq])
  all_goals try simp
  all_goals omega

/-- The text of calls. -/
def listT (l : List Ca) : List UInt8 := l.flatMap fun c => ctx c.1 c.2 ++ [10]
theorem listT_take (l : List Ca) (k : Nat) (h : k < l.length) : listT (l.take (k + 1)) = listT (l.take k) ++ (ctx l[k].1 l[k].2 ++ [10]) := by
  rw [List.take_succ_eq_append_getElem h]
  unfold listT
  rw [List.flatMap_append]
  simp
theorem listT_len : ∀ (l : List Ca), (∀ c ∈ l, WfC c) → (listT l).length ≤ 116 * l.length
  | [], _ => by simp [listT]
  | c :: l, h => by
    have ih := listT_len l (fun x hx => h x (List.mem_cons_of_mem _ hx))
    have h1 := ctx_len (op := c.1) (h c (List.mem_cons_self ..)).2
    unfold listT at ih ⊢
    simp only [List.flatMap_cons, List.length_append, List.length_cons, List.length_nil]
    omega

theorem call_List (nl : Bool) (l : List Ca) (hw : ∀ c ∈ l, WfC c) (hl : l.length ≤ 1048576) :
    APure cx 31 [.sl 7 nl (cvs l) .any] (if 65536 < l.length then .tup [.str [], .int .i64 3] else if (∀ c ∈ l, MayC c.1 c.2) then .tup [.str (listT l), .int .i64 0] else .tup [.str [], .int .i64 2]) := by
  have hcn := list_contains nl l hw hl
  by_cases h6 : 65536 < l.length
  case pos =>
    rw [if_pos h6]
    clear hcn
    refine pure_fn cxOk Tryd.func31 (by kernel_rfl) (fun _ => false) (fun _ => none) (by kernel_rfl) (Nat.le_of_ble_eq_true (by kernel_rfl)) ?_
    dsimp only [LB, Tryd.f31, lite, nextOf, Option.isNone, Bool.not_true, Bool.not_false, Bool.and_true, Bool.true_and, Bool.false_and, Bool.and_self, Bool.false_eq_true, if_false, if_true, ↓reduceIte, liteO, List.map, Option.map, frame0, List.zipIdx, Nat.reduceAdd]
    try simp only [List.getElem?_toArray, List.getElem?_cons_succ, List.getElem?_cons_zero, Option.bind_some]
    repeat' (first
      | refine aC_seq ?_
      | refine aC_reg rfl ?_
      | refine aC_block ?_
      | refine aC_ret ?_
      | refine thenQ_normal ?_
      | refine thenQ_ret ?_
      | refine blockQ_ret ?_
      | refine aL_nil ?_
      | (apply aL_step; (· exact True.intro); (· simp (disch := first | omega | (simp only [go_sem]; omega)) only [go_sem, get_miss, seval, reduceCtorEq]); (· simp (disch := first | omega | (simp only [go_sem]; omega)) only [go_sem, get_miss, seval, reduceCtorEq] <;> with_reducible rfl); (· simp only [go_sem] <;> with_reducible rfl))
      | (refine aC_condP (by simp (disch := first | omega | (simp only [go_sem]; omega)) only [go_sem, get_miss, seval, reduceCtorEq] <;> with_reducible rfl) ?_ ?_ <;> (intro h; first | (exfalso; omega) | skip))
      | (apply aL_acall (call_table _); (case hg => (simp (disch := first | omega | (simp only [go_sem]; omega)) only [go_sem, get_miss, seval, reduceCtorEq])); (case hx => (simp (disch := first | omega | (simp only [go_sem]; omega)) only [go_sem, get_miss, seval, reduceCtorEq] <;> with_reducible rfl)); (case ha => (simp (disch := first | omega | (simp only [go_sem]; omega)) only [go_sem, get_miss, seval, reduceCtorEq] <;> with_reducible rfl)); (case he => (with_reducible rfl)); (case hp => (rfl)); (case hf => (simp only [go_sem] <;> with_reducible rfl)))
      | fail)
    all_goals try (first | exact True.intro | exact not_false | omega)
    all_goals try (simp (disch := first | omega | (simp only [go_sem]; omega)) only [go_sem, get_miss, seval, reduceCtorEq] <;> first | exact True.intro | omega)
    all_goals try (simp (disch := first | omega | (simp only [go_sem]; omega)) only [go_sem, get_miss, seval, reduceCtorEq])
    all_goals try simp
  case neg =>
  rw [if_neg h6]
  by_cases hM : ∀ c ∈ l, MayC c.1 c.2
  case neg =>
    rw [if_neg hM]
    rw [decide_eq_true (Classical.byContradiction fun h => hM fun c hc => Decidable.byContradiction fun k => h ⟨c, hc, k⟩)] at hcn
    clear hM
    refine pure_fn cxOk Tryd.func31 (by kernel_rfl) (fun _ => false) (fun _ => none) (by kernel_rfl) (Nat.le_of_ble_eq_true (by kernel_rfl)) ?_
    dsimp only [LB, Tryd.f31, lite, nextOf, Option.isNone, Bool.not_true, Bool.not_false, Bool.and_true, Bool.true_and, Bool.false_and, Bool.and_self, Bool.false_eq_true, if_false, if_true, ↓reduceIte, liteO, List.map, Option.map, frame0, List.zipIdx, Nat.reduceAdd]
    try simp only [List.getElem?_toArray, List.getElem?_cons_succ, List.getElem?_cons_zero, Option.bind_some]
    repeat' (first
      | refine aC_seq ?_
      | refine aC_reg rfl ?_
      | refine aC_block ?_
      | refine aC_ret ?_
      | refine thenQ_normal ?_
      | refine thenQ_ret ?_
      | refine blockQ_ret ?_
      | refine aL_nil ?_
      | (apply aL_step; (· exact True.intro); (· simp (disch := first | omega | (simp only [go_sem]; omega)) only [go_sem, get_miss, seval, reduceCtorEq]); (· simp (disch := first | omega | (simp only [go_sem]; omega)) only [go_sem, get_miss, seval, reduceCtorEq] <;> with_reducible rfl); (· simp only [go_sem] <;> with_reducible rfl))
      | (refine aC_condT ?_ ?_; (· simp (disch := first | omega | (simp only [go_sem]; omega)) only [go_sem, get_miss, seval, reduceCtorEq]))
      | (refine aC_condP (by simp (disch := first | omega | (simp only [go_sem]; omega)) only [go_sem, get_miss, seval, reduceCtorEq] <;> with_reducible rfl) ?_ ?_ <;> (intro h; first | (exfalso; omega) | skip))
      | (apply aL_acall (call_table _); (case hg => (simp (disch := first | omega | (simp only [go_sem]; omega)) only [go_sem, get_miss, seval, reduceCtorEq])); (case hx => (simp (disch := first | omega | (simp only [go_sem]; omega)) only [go_sem, get_miss, seval, reduceCtorEq] <;> with_reducible rfl)); (case ha => (simp (disch := first | omega | (simp only [go_sem]; omega)) only [go_sem, get_miss, seval, reduceCtorEq] <;> with_reducible rfl)); (case he => (with_reducible rfl)); (case hp => (rfl)); (case hf => (simp only [go_sem] <;> with_reducible rfl)))
      | (apply aL_acall (hcn); (case hg => (simp (disch := first | omega | (simp only [go_sem]; omega)) only [go_sem, get_miss, seval, reduceCtorEq])); (case hx => (simp (disch := first | omega | (simp only [go_sem]; omega)) only [go_sem, get_miss, seval, reduceCtorEq] <;> with_reducible rfl)); (case ha => (simp (disch := first | omega | (simp only [go_sem]; omega)) only [go_sem, get_miss, seval, reduceCtorEq] <;> with_reducible rfl)); (case he => (with_reducible rfl)); (case hp => (rfl)); (case hf => (simp only [go_sem] <;> with_reducible rfl)))
      | fail)
    all_goals try (first | exact True.intro | exact not_false | omega)
    all_goals try (simp (disch := first | omega | (simp only [go_sem]; omega)) only [go_sem, get_miss, seval, reduceCtorEq] <;> first | exact True.intro | omega)
    all_goals (clear hcn)
    all_goals try (simp (disch := first | omega | (simp only [go_sem]; omega)) only [go_sem, get_miss, seval, reduceCtorEq])
    all_goals try simp
  case pos =>
  rw [if_pos hM]
  rw [decide_eq_false (fun ⟨c, hc, k⟩ => k (hM c hc))] at hcn
  refine pure_fn cxOk Tryd.func31 (by kernel_rfl) (fun _ => false) (fun _ => none) (by kernel_rfl) (Nat.le_of_ble_eq_true (by kernel_rfl)) ?_
  dsimp only [LB, Tryd.f31, lite, nextOf, Option.isNone, Bool.not_true, Bool.not_false, Bool.and_true, Bool.true_and, Bool.false_and, Bool.and_self, Bool.false_eq_true, if_false, if_true, ↓reduceIte, liteO, List.map, Option.map, frame0, List.zipIdx, Nat.reduceAdd]
  try simp only [List.getElem?_toArray, List.getElem?_cons_succ, List.getElem?_cons_zero, Option.bind_some]
  repeat' (first
    | refine aC_seq ?_
    | refine aC_reg rfl ?_
    | refine aC_block ?_
    | refine aC_skip ?_
    | refine aC_loop ?_
    | refine thenQ_normal ?_
    | refine blockQ_normal ?_
    | refine aL_nil ?_
    | (apply aL_step; (· exact True.intro); (· simp (disch := first | omega | (simp only [go_sem]; omega)) only [go_sem, get_miss, seval, reduceCtorEq]); (· simp (disch := first | omega | (simp only [go_sem]; omega)) only [go_sem, get_miss, seval, reduceCtorEq] <;> with_reducible rfl); (· simp only [go_sem] <;> with_reducible rfl))
    | (refine aC_condF ?_ ?_; (· simp (disch := first | omega | (simp only [go_sem]; omega)) only [go_sem, get_miss, seval, reduceCtorEq]))
    | (refine aC_condP (by simp (disch := first | omega | (simp only [go_sem]; omega)) only [go_sem, get_miss, seval, reduceCtorEq] <;> with_reducible rfl) ?_ ?_ <;> (intro h; first | (exfalso; omega) | skip))
    | (apply aL_acall (call_table _); (case hg => (simp (disch := first | omega | (simp only [go_sem]; omega)) only [go_sem, get_miss, seval, reduceCtorEq])); (case hx => (simp (disch := first | omega | (simp only [go_sem]; omega)) only [go_sem, get_miss, seval, reduceCtorEq] <;> with_reducible rfl)); (case ha => (simp (disch := first | omega | (simp only [go_sem]; omega)) only [go_sem, get_miss, seval, reduceCtorEq] <;> with_reducible rfl)); (case he => (with_reducible rfl)); (case hp => (rfl)); (case hf => (simp only [go_sem] <;> with_reducible rfl)))
    | (apply aL_acall (hcn); (case hg => (simp (disch := first | omega | (simp only [go_sem]; omega)) only [go_sem, get_miss, seval, reduceCtorEq])); (case hx => (simp (disch := first | omega | (simp only [go_sem]; omega)) only [go_sem, get_miss, seval, reduceCtorEq] <;> with_reducible rfl)); (case ha => (simp (disch := first | omega | (simp only [go_sem]; omega)) only [go_sem, get_miss, seval, reduceCtorEq] <;> with_reducible rfl)); (case he => (with_reducible rfl)); (case hp => (rfl)); (case hf => (simp only [go_sem] <;> with_reducible rfl)))
    | fail)
  · clear hcn
    refine loop_ruleD (cxOk.wp _ _) (cxG.wp _ _) (σ := Nat) (fun k => [(19, .int .i64 k), (18, .int .i64 l.length), (17, .sl 7 nl (cvs l) .any), (5, .ptr 2 0), (4, .ptr 1 0)])
      (fun k => [.mpx TABLE 21, .cells [.map 0] 66, bld 2 3 (if k = 0 then .nilp else .ptr 2 0) (listT (l.take k)), .grow (listT (l.take k)).length 1 5]) (fun k => l.length - k) (fun k => k ≤ l.length)
      4 0 (GStep.own 2 5 rfl) ⟨Nat.zero_le _, Sub.of_all (by simp [Fr.get]), rfl⟩ (by simp) (fun k _ => ⟨by by_cases h : k = 0 <;> simp [h, belS, belB, bld, bel, bels, belT, Nat.blt, bels_bytes] <;> kernel_rfl, by simp [belF, bel, bels_cvs, belT, Nat.blt]⟩) ?_
    intro k hk
    have htl := listT_len (l.take k) (fun c hc => hw c (List.mem_of_mem_take hc))
    have htk : (l.take k).length ≤ 65536 := by rw [List.length_take]; omega
    have hp : (if k = 0 then AVal.nilp else .ptr 2 0) = .nilp ∨ (if k = 0 then AVal.nilp else .ptr 2 0) = .ptr 2 0 := by split <;> simp
    by_cases hlt : k < l.length
    · have hcw := hw _ (List.getElem_mem hlt)
      have hx6 : l[k].2.length = 6 := hcw.1
      have hxl := ctx_len (op := l[k].1) hcw.2
      have htake := listT_take l k hlt
      have hgd := getD_cvs l k .any hlt
      have htx := fun (S : St) hS => call_text (op := l[k].1) hcw.1 hcw.2 (S := S) (i := 0) hS
      generalize hX : ctx l[k].1 l[k].2 = X at *
      generalize l[k] = c at *
      generalize hbs : listT (l.take k) = bs at *
      generalize hpp : (if k = 0 then AVal.nilp else .ptr 2 0) = p at *
      have htx := htx [.mpx TABLE 21, .cells [.map 0] 66, bld 2 3 p bs, .grow bs.length 1 5, .cells (.int .i64 c.1 :: wl c.2) 32] rfl
      have hws := write_string (S := [.mpx TABLE 21, .cells [.map 0] 66, bld 2 3 p bs, .grow bs.length 1 5, .cells (.int .i64 c.1 :: wl c.2) 32])
        (i := 2) (g := 3) (p := p) (bs := bs) (s := X ++ [10]) hp rfl rfl (by simp; omega)
      simp only [List.set_cons_zero, List.set_cons_succ] at hws
      repeat' (first
        | refine aC_seq ?_
        | refine aC_reg rfl ?_
        | refine aC_block ?_
        | refine aC_skip ?_
        | refine thenQ_normal ?_
        | refine blockQ_normal ?_
        | refine aL_nil ?_
        | (apply aL_step; (· exact True.intro); (· simp (disch := first | omega | (simp only [go_sem]; omega)) only [go_sem, get_miss, seval, reduceCtorEq, hgd]); (· simp (disch := first | omega | (simp only [go_sem]; omega)) only [go_sem, get_miss, seval, reduceCtorEq, hgd] <;> with_reducible rfl); (· simp only [go_sem] <;> with_reducible rfl))
        | (refine aC_condP (by simp (disch := first | omega | (simp only [go_sem]; omega)) only [go_sem, get_miss, seval, reduceCtorEq, hgd] <;> with_reducible rfl) ?_ ?_ <;> (intro h; first | (exfalso; omega) | skip))
        | (apply aL_acall (htx); (case hg => (simp (disch := first | omega | (simp only [go_sem]; omega)) only [go_sem, get_miss, seval, reduceCtorEq, hgd])); (case hx => (simp (disch := first | omega | (simp only [go_sem]; omega)) only [go_sem, get_miss, seval, reduceCtorEq, hgd] <;> with_reducible rfl)); (case ha => (simp (disch := first | omega | (simp only [go_sem]; omega)) only [go_sem, get_miss, seval, reduceCtorEq, hgd] <;> with_reducible rfl)); (case he => (with_reducible rfl)); (case hp => (rfl)); (case hf => (simp only [go_sem] <;> with_reducible rfl)))
        | (apply aL_acall (hws); (case hg => (simp (disch := first | omega | (simp only [go_sem]; omega)) only [go_sem, get_miss, seval, reduceCtorEq, hgd])); (case hx => (simp (disch := first | omega | (simp only [go_sem]; omega)) only [go_sem, get_miss, seval, reduceCtorEq, hgd] <;> with_reducible rfl)); (case ha => (simp (disch := first | omega | (simp only [go_sem]; omega)) only [go_sem, get_miss, seval, reduceCtorEq, hgd] <;> with_reducible rfl)); (case he => (with_reducible rfl)); (case hp => (rfl)); (case hf => (simp only [go_sem] <;> with_reducible rfl)))
        | fail)
      all_goals try (first | exact True.intro | exact not_false | omega)
      all_goals try (simp (disch := first | omega | (simp only [go_sem]; omega)) only [go_sem, get_miss, seval, reduceCtorEq] <;> first | exact True.intro | omega)
      all_goals first | omega | exact ⟨k + 1, by omega, Sub.of_all (by simp [Fr.get]), by simp [htake, List.length_append], by omega⟩
    · have hk' : k = l.length := by omega
      subst hk'
      rw [List.take_length]
      generalize (if l.length = 0 then AVal.nilp else .ptr 2 0) = p at *
      have hs := bld_string bldOk (S := [.mpx TABLE 21, .cells [.map 0] 66, bld 2 3 p (listT l), .grow (listT l).length 1 5]) (i := 2) (g := 3) (p := p) (bs := listT l) rfl rfl
      repeat' (first
        | refine aC_seq ?_
        | refine aC_reg rfl ?_
        | refine aC_exit ?_
        | refine aC_ret ?_
        | refine thenQ_normal ?_
        | refine thenQ_exit ?_
        | refine blockQ_hit ?_
        | refine aL_nil ?_
        | (apply aL_step; (· exact True.intro); (· simp (disch := first | omega | (simp only [go_sem]; omega)) only [go_sem, get_miss, seval, reduceCtorEq]); (· simp (disch := first | omega | (simp only [go_sem]; omega)) only [go_sem, get_miss, seval, reduceCtorEq] <;> with_reducible rfl); (· simp only [go_sem] <;> with_reducible rfl))
        | (refine aC_condP (by simp (disch := first | omega | (simp only [go_sem]; omega)) only [go_sem, get_miss, seval, reduceCtorEq] <;> with_reducible rfl) ?_ ?_ <;> (intro h; first | (exfalso; omega) | skip))
        | (apply aL_acall (hs); (case hg => (simp (disch := first | omega | (simp only [go_sem]; omega)) only [go_sem, get_miss, seval, reduceCtorEq])); (case hx => (simp (disch := first | omega | (simp only [go_sem]; omega)) only [go_sem, get_miss, seval, reduceCtorEq] <;> with_reducible rfl)); (case ha => (simp (disch := first | omega | (simp only [go_sem]; omega)) only [go_sem, get_miss, seval, reduceCtorEq] <;> with_reducible rfl)); (case he => (with_reducible rfl)); (case hp => (rfl)); (case hf => (simp only [go_sem] <;> with_reducible rfl)))
        | fail)
      all_goals try (first | exact True.intro | exact not_false | omega)
      all_goals try (simp (disch := first | omega | (simp only [go_sem]; omega)) only [go_sem, get_miss, seval, reduceCtorEq] <;> first | exact True.intro | omega)
      all_goals try (simp (disch := first | omega | (simp only [go_sem]; omega)) only [go_sem, get_miss, seval, reduceCtorEq])
      all_goals try simp
  all_goals first | trivial | omega
end
end Go.Am
