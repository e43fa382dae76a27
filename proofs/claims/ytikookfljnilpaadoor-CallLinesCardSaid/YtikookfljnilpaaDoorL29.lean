/- call.Make, call.Op at a name of the table; the law CallLines. -/
import Derived.Test.YtikookfljnilpaaDoorL20
import Derived.Test.YtikookfljnilpaaDoorL13
import Derived.Test.YtikookfljnilpaaDoorL30
set_option linter.unusedVariables false
set_option linter.unusedSimpArgs false
namespace Go.Am
open Go Go.Proofs
set_option linter.unusedSimpArgs false
set_option linter.unusedVariables false
set_option maxHeartbeats 8000000
set_option maxRecDepth 100000
section
variable {C : Cx}
/-- A contract that reads one box, in a region that lays boxes ahead. -/
theorem aLH_lend {U : UL} {B : List (Option Nat × Nat)} {H : Holes} {p : FuncId → Bool} {q : Nat → Option UL} {d : Option Nat} {gd : Option (Option Nat × Bool)} {x : Operand} {xs : Array Operand} {ts : Array TypeId} {rest : List LO} {Q : Fr → St → Prop} {fr : Fr} {S : St} {f : FuncId} {zs bs args cargs : List AVal} {r : AVal} {i : Nat} {z : ABox} {fr' : Fr}
    (hc : ∀ S : St, S[i]? = some z → ACall C f cargs S r S) (hp : p f = false) (hz : z ≠ .hole) (hS : S[i]? = some z) (hg : wantL gd fr = some true) (hx : aEval (C.wp p q) fr.get x = .fn (.func f) zs bs) (ha : zs ++ xs.toList.map (aEval (C.wp p q) fr.get) ++ bs = args) (he : cargs = args) (hf : fr.put d r = fr')
    (k : aL (C.wp p q) (some (U, B, H)) rest Q fr' S) : aL (C.wp p q) (some (U, B, H)) (⟨d, .call ⟨.value x, xs, ts⟩, gd⟩ :: rest) Q fr S := by
  refine aLH_call hg hx ha (he ▸ (hc S hS).callX hp) hf (fun _ _ h => h) (fun L hL => ?_) (fun _ _ _ => rfl) k
  have hS' : (fill S L)[i]? = some z := by
    rw [fill_get L S (fun e he' h => ?_), hS]
    have := (hL e he').2
    rw [h, hS] at this
    injection this with this
    exact hz this
  exact he ▸ (hc (fill S L) hS').callX hp
end
section
attribute [local irreducible] aC aL thenQ blockQ scopeQ ALoop AWp

/-- Arguments, and zeros up to six. -/
def pad (a : List Nat) : List Nat := a ++ [0, 0, 0, 0, 0, 0].drop a.length
theorem wl_copy6 {a : List Nat} (h : a.length ≤ 6) : putCells [.int .u64 0, .int .u64 0, .int .u64 0, .int .u64 0, .int .u64 0, .int .u64 0] 0 (wl a) = wl (pad a) := by
  show putCells (wl [0, 0, 0, 0, 0, 0]) 0 (wl a) = _
  rw [putCells_eq _ _ _ (by rw [length_wl, length_wl]; simp; omega), length_wl]
  simp [pad, wl]
theorem pad_len {a : List Nat} (h : a.length ≤ 6) : (pad a).length = 6 := by simp [pad]; omega
theorem pad_take {op : Int} {xs : List Nat} (hm : MayC op xs) (hx : xs.length = 6) : pad (xs.take (car op)) = xs := by
  have hc := car_le op
  have e : xs.drop (car op) = [0, 0, 0, 0, 0, 0].drop (car op) := by
    apply List.ext_getElem
    · simp [hx]
    · intro i h1 h2
      rw [hm.2 _ (List.getElem_mem h1), List.getElem_drop]
      simp at h2
      have : ∀ j : Nat, ∀ h : j < 6, ([0, 0, 0, 0, 0, 0] : List Nat)[j] = 0 := by decide
      exact (this _ (by omega)).symm
  unfold pad
  rw [List.length_take, hx, Nat.min_eq_left (by omega), ← e, List.take_append_drop]

theorem call_Make (op : Int) (nl : Bool) (a : List Nat) (hl : a.length ≤ 60) : APure cx 18 [.int .i64 op, .sl 1 nl (wl a) .any]
    (if (1 ≤ op ∧ op ≤ 21) ∧ a.length = car op then .tup [.agg (.int .i64 op :: wl (pad a)), .int .i64 0] else .tup [.agg (.int .i64 0 :: wl [0, 0, 0, 0, 0, 0]), .int .i64 2]) := by
  have ha := call_Arity op
  have hc := car_le op
  have hcop := fun h : a.length ≤ 6 => wl_copy6 h
  have hpl := fun h : a.length ≤ 6 => pad_len h
  by_cases h : 1 ≤ op ∧ op ≤ 21
  case neg =>
    rw [if_neg h] at ha
    rw [if_neg (fun k => h k.1)]
    clear h hcop hpl
    refine pure_fn cxOk Tryd.func18 (by kernel_rfl) (fun _ => false) (fun _ => none) (by kernel_rfl) (Nat.le_of_ble_eq_true (by kernel_rfl)) ?_
    dsimp only [LB, Tryd.f18, lite, nextOf, Option.isNone, Bool.not_true, Bool.not_false, Bool.and_true, Bool.true_and, Bool.false_and, Bool.and_self, Bool.false_eq_true, if_false, if_true, ↓reduceIte, liteO, List.map, Option.map, frame0, List.zipIdx, Nat.reduceAdd]
    try simp only [List.getElem?_toArray, List.getElem?_cons_succ, List.getElem?_cons_zero, Option.bind_some]
    repeat' (first
      | refine aC_seq ?_
      | refine aC_reg rfl ?_
      | refine aC_ret ?_
      | refine thenQ_normal ?_
      | refine thenQ_ret ?_
      | refine aL_nil ?_
      | (apply aL_step; (· exact True.intro); (· simp (disch := first | omega | (simp only [go_sem]; omega)) only [go_sem, get_miss, seval, reduceCtorEq, nil_wl, cons_wl, List.replicate]); (· simp (disch := first | omega | (simp only [go_sem]; omega)) only [go_sem, get_miss, seval, reduceCtorEq, nil_wl, cons_wl, List.replicate] <;> with_reducible rfl); (· simp only [go_sem] <;> with_reducible rfl))
      | (refine aL_skip ?_ (by simp only [go_sem] <;> with_reducible rfl) ?_; (· simp (disch := first | omega | (simp only [go_sem]; omega)) only [go_sem, get_miss, seval, reduceCtorEq, nil_wl, cons_wl, List.replicate]))
      | (refine aC_condT ?_ ?_; (· simp (disch := first | omega | (simp only [go_sem]; omega)) only [go_sem, get_miss, seval, reduceCtorEq, nil_wl, cons_wl, List.replicate]))
      | (apply aL_pure cxG (ha); (case hg => (simp (disch := first | omega | (simp only [go_sem]; omega)) only [go_sem, get_miss, seval, reduceCtorEq, nil_wl, cons_wl, List.replicate])); (case hx => (simp (disch := first | omega | (simp only [go_sem]; omega)) only [go_sem, get_miss, seval, reduceCtorEq, nil_wl, cons_wl, List.replicate] <;> with_reducible rfl)); (case ha => (simp (disch := first | omega | (simp only [go_sem]; omega)) only [go_sem, get_miss, seval, reduceCtorEq, nil_wl, cons_wl, List.replicate] <;> with_reducible rfl)); (case he => (simp only [go_sem] <;> with_reducible rfl)); (case hcl => (simp)); (case hf => (simp only [go_sem] <;> with_reducible rfl)))
      | fail)
    all_goals try (first | exact True.intro | exact not_false | omega)
    all_goals try (simp (disch := first | omega | (simp only [go_sem]; omega)) only [go_sem, get_miss, seval, reduceCtorEq] <;> first | exact True.intro | omega)
    all_goals try (simp (disch := first | omega | (simp only [go_sem]; omega)) only [go_sem, get_miss, seval, reduceCtorEq])
    all_goals try simp [wl]
  case pos =>
    rw [if_pos h] at ha
    by_cases h2 : a.length = car op
    case neg =>
      rw [if_neg (fun k => h2 k.2)]
      clear hcop hpl
      generalize car op = K at *
      refine pure_fn cxOk Tryd.func18 (by kernel_rfl) (fun _ => false) (fun _ => none) (by kernel_rfl) (Nat.le_of_ble_eq_true (by kernel_rfl)) ?_
      dsimp only [LB, Tryd.f18, lite, nextOf, Option.isNone, Bool.not_true, Bool.not_false, Bool.and_true, Bool.true_and, Bool.false_and, Bool.and_self, Bool.false_eq_true, if_false, if_true, ↓reduceIte, liteO, List.map, Option.map, frame0, List.zipIdx, Nat.reduceAdd]
      try simp only [List.getElem?_toArray, List.getElem?_cons_succ, List.getElem?_cons_zero, Option.bind_some]
      repeat' (first
        | refine aC_seq ?_
        | refine aC_reg rfl ?_
        | refine aC_ret ?_
        | refine thenQ_normal ?_
        | refine thenQ_ret ?_
        | refine aL_nil ?_
        | (apply aL_step; (· exact True.intro); (· simp (disch := first | omega | (simp only [go_sem]; omega)) only [go_sem, get_miss, seval, reduceCtorEq, nil_wl, cons_wl, List.replicate]); (· simp (disch := first | omega | (simp only [go_sem]; omega)) only [go_sem, get_miss, seval, reduceCtorEq, nil_wl, cons_wl, List.replicate] <;> with_reducible rfl); (· simp only [go_sem] <;> with_reducible rfl))
        | (apply aL_guardN; (· simp (disch := first | omega | (simp only [go_sem]; omega)) only [go_sem, get_miss, seval, reduceCtorEq, nil_wl, cons_wl, List.replicate] <;> with_reducible rfl); all_goals (intro h; first | (exfalso; omega) | (simp only [h, decide_true, decide_false, not_true, not_false_iff])))
        | (refine aC_condP (by simp (disch := first | omega | (simp only [go_sem]; omega)) only [go_sem, get_miss, seval, reduceCtorEq, nil_wl, cons_wl, List.replicate] <;> with_reducible rfl) ?_ ?_ <;> (intro h; first | (exfalso; omega) | skip))
        | (apply aL_pure cxG (ha); (case hg => (simp (disch := first | omega | (simp only [go_sem]; omega)) only [go_sem, get_miss, seval, reduceCtorEq, nil_wl, cons_wl, List.replicate])); (case hx => (simp (disch := first | omega | (simp only [go_sem]; omega)) only [go_sem, get_miss, seval, reduceCtorEq, nil_wl, cons_wl, List.replicate] <;> with_reducible rfl)); (case ha => (simp (disch := first | omega | (simp only [go_sem]; omega)) only [go_sem, get_miss, seval, reduceCtorEq, nil_wl, cons_wl, List.replicate] <;> with_reducible rfl)); (case he => (simp only [go_sem] <;> with_reducible rfl)); (case hcl => (simp)); (case hf => (simp only [go_sem] <;> with_reducible rfl)))
        | fail)
      all_goals try (first | exact True.intro | exact not_false | omega)
      all_goals try (simp (disch := first | omega | (simp only [go_sem]; omega)) only [go_sem, get_miss, seval, reduceCtorEq] <;> first | exact True.intro | omega)
      all_goals try (simp (disch := first | omega | (simp only [go_sem]; omega)) only [go_sem, get_miss, seval, reduceCtorEq])
      all_goals try simp [wl]
      all_goals omega
    case pos =>
      rw [if_pos ⟨h, h2⟩]
      have hcop := hcop (by omega)
      have hpl := hpl (by omega)
      generalize pad a = Z at *
      rw [← h2] at ha
      refine pure_fn cxOk Tryd.func18 (by kernel_rfl) (fun _ => false) (fun _ => none) (by kernel_rfl) (Nat.le_of_ble_eq_true (by kernel_rfl)) ?_
      dsimp only [LB, Tryd.f18, lite, nextOf, Option.isNone, Bool.not_true, Bool.not_false, Bool.and_true, Bool.true_and, Bool.false_and, Bool.and_self, Bool.false_eq_true, if_false, if_true, ↓reduceIte, liteO, List.map, Option.map, frame0, List.zipIdx, Nat.reduceAdd]
      try simp only [List.getElem?_toArray, List.getElem?_cons_succ, List.getElem?_cons_zero, Option.bind_some]
      repeat' (first
        | refine aC_seq ?_
        | refine aC_reg rfl ?_
        | refine aC_skip ?_
        | refine aC_ret ?_
        | refine thenQ_normal ?_
        | refine aL_nil ?_
        | (apply aL_step; (· exact True.intro); (· simp (disch := first | omega | (simp only [go_sem]; omega)) only [go_sem, get_miss, seval, reduceCtorEq, hcop, List.replicate]); (· simp (disch := first | omega | (simp only [go_sem]; omega)) only [go_sem, get_miss, seval, reduceCtorEq, hcop, List.replicate] <;> with_reducible rfl); (· simp only [go_sem] <;> with_reducible rfl))
        | (apply aL_guardN; (· simp (disch := first | omega | (simp only [go_sem]; omega)) only [go_sem, get_miss, seval, reduceCtorEq, hcop, List.replicate] <;> with_reducible rfl); all_goals (intro h; first | (exfalso; omega) | (simp only [h, decide_true, decide_false, not_true, not_false_iff])))
        | (refine aC_condF ?_ ?_; (· simp (disch := first | omega | (simp only [go_sem]; omega)) only [go_sem, get_miss, seval, reduceCtorEq, hcop, List.replicate]))
        | (apply aL_pure cxG (ha); (case hg => (simp (disch := first | omega | (simp only [go_sem]; omega)) only [go_sem, get_miss, seval, reduceCtorEq, hcop, List.replicate])); (case hx => (simp (disch := first | omega | (simp only [go_sem]; omega)) only [go_sem, get_miss, seval, reduceCtorEq, hcop, List.replicate] <;> with_reducible rfl)); (case ha => (simp (disch := first | omega | (simp only [go_sem]; omega)) only [go_sem, get_miss, seval, reduceCtorEq, hcop, List.replicate] <;> with_reducible rfl)); (case he => (simp only [go_sem] <;> with_reducible rfl)); (case hcl => (simp)); (case hf => (simp only [go_sem] <;> with_reducible rfl)))
        | fail)
      all_goals try (first | exact True.intro | exact not_false | omega)
      all_goals try (simp (disch := first | omega | (simp only [go_sem]; omega)) only [go_sem, get_miss, seval, reduceCtorEq] <;> first | exact True.intro | omega)
      all_goals try (simp (disch := first | omega | (simp only [go_sem]; omega)) only [go_sem, get_miss, seval, reduceCtorEq])
      all_goals try simp
      all_goals omega

theorem make_view {S : St} {i : Nat} {op : Int} {xs : List Nat} {t : TypeId} (hm : MayC op xs) (hx : xs.length = 6) (hS : S[i]? = some (.cells (.int .i64 op :: wl xs) t)) {cap : Nat} (hcap : cap ≤ 6) :
    ACall cx 18 [.int .i64 op, .view i 1 (car op) cap] S (.tup [.agg (.int .i64 op :: wl xs), .int .i64 0]) S := by
  have hc := car_le op
  have hl : (xs.take (car op)).length = car op := by rw [List.length_take, hx]; omega
  have h := call_Make op false (xs.take (car op)) (by omega)
  rw [if_pos ⟨hm.1, hl⟩, pad_take hm hx] at h
  refine APure.lend cxG h ?_ ?_ ?_ ?_
  · simp only [List.map_cons, List.map_nil, look1, hS]
    rw [List.drop_succ_cons, List.drop_zero, show List.take (car op) (wl xs) = wl (xs.take (car op)) by simp [wl]]
  · intro a ha
    rcases List.mem_cons.1 ha with rfl | ha
    · trivial
    · rw [List.mem_singleton.1 ha]
      refine ⟨by unfold maxLen; omega, _, _, hS, by simp; omega, ?_⟩
      intro x hx
      rcases List.mem_cons.1 hx with rfl | hx
      · rfl
      · exact (one_wl xs).2 trivial x hx
  · intro a ha
    rcases List.mem_cons.1 ha with rfl | ha
    · simp
    · rw [List.mem_singleton.1 ha]; simp
  · simp

theorem law_lines (op : Int) (xs : List Nat) (hx : xs.length = 6) (hw : ∀ x ∈ xs, x < 18446744073709551616) :
    APure cx 6 [.agg (.int .i64 op :: wl xs)] (.bool true) := by
  have ht := call_Text op xs hx hw
  have hk := call_known
  have n0 := law_num 0
  have n2 := law_num 2
  by_cases h : MayC op xs
  case neg =>
    rw [if_neg h] at ht
    clear h
    refine pure_fn cxOk Tryd.func6 (by kernel_rfl) (fun _ => false) (fe6.q) (by kernel_rfl) (Nat.le_of_ble_eq_true (by kernel_rfl)) ?_
    dsimp only [LB, Tryd.f6, lite, nextOf, Option.isNone, Bool.not_true, Bool.not_false, Bool.and_true, Bool.true_and, Bool.false_and, Bool.and_self, Bool.false_eq_true, if_false, if_true, ↓reduceIte, liteO, List.map, Option.map, frame0, List.zipIdx, Nat.reduceAdd]
    try simp only [List.getElem?_toArray, List.getElem?_cons_succ, List.getElem?_cons_zero, Option.bind_some]
    repeat' (first
      | refine aC_seq ?_
      | refine aC_reg rfl ?_
      | refine aC_ret ?_
      | refine thenQ_normal ?_
      | refine thenQ_ret ?_
      | refine aL_nil ?_
      | (apply aL_step; (· exact True.intro); (· simp (disch := first | omega | (simp only [go_sem]; omega)) only [go_sem, get_miss, seval, reduceCtorEq, eq_self_iff_true, decide_true, decide_false, Bool.not_true, Bool.not_false, beq_self_eq_true, bne_self_eq_false, not_true_eq_false, not_false_eq_true]); (· simp (disch := first | omega | (simp only [go_sem]; omega)) only [go_sem, get_miss, seval, reduceCtorEq, eq_self_iff_true, decide_true, decide_false, Bool.not_true, Bool.not_false, beq_self_eq_true, bne_self_eq_false, not_true_eq_false, not_false_eq_true] <;> with_reducible rfl); (· simp only [go_sem] <;> with_reducible rfl))
      | (refine aC_condT ?_ ?_; (· simp (disch := first | omega | (simp only [go_sem]; omega)) only [go_sem, get_miss, seval, reduceCtorEq, eq_self_iff_true, decide_true, decide_false, Bool.not_true, Bool.not_false, beq_self_eq_true, bne_self_eq_false, not_true_eq_false, not_false_eq_true]))
      | (apply aL_pure cxG (ht); (case hg => (simp (disch := first | omega | (simp only [go_sem]; omega)) only [go_sem, get_miss, seval, reduceCtorEq, eq_self_iff_true, decide_true, decide_false, Bool.not_true, Bool.not_false, beq_self_eq_true, bne_self_eq_false, not_true_eq_false, not_false_eq_true])); (case hx => (simp (disch := first | omega | (simp only [go_sem]; omega)) only [go_sem, get_miss, seval, reduceCtorEq, eq_self_iff_true, decide_true, decide_false, Bool.not_true, Bool.not_false, beq_self_eq_true, bne_self_eq_false, not_true_eq_false, not_false_eq_true] <;> with_reducible rfl)); (case ha => (simp (disch := first | omega | (simp only [go_sem]; omega)) only [go_sem, get_miss, seval, reduceCtorEq, eq_self_iff_true, decide_true, decide_false, Bool.not_true, Bool.not_false, beq_self_eq_true, bne_self_eq_false, not_true_eq_false, not_false_eq_true] <;> with_reducible rfl)); (case he => (simp only [go_sem] <;> with_reducible rfl)); (case hcl => (simp)); (case hf => (simp only [go_sem] <;> with_reducible rfl)))
      | (apply aL_pure cxG (n2); (case hg => (simp (disch := first | omega | (simp only [go_sem]; omega)) only [go_sem, get_miss, seval, reduceCtorEq, eq_self_iff_true, decide_true, decide_false, Bool.not_true, Bool.not_false, beq_self_eq_true, bne_self_eq_false, not_true_eq_false, not_false_eq_true])); (case hx => (simp (disch := first | omega | (simp only [go_sem]; omega)) only [go_sem, get_miss, seval, reduceCtorEq, eq_self_iff_true, decide_true, decide_false, Bool.not_true, Bool.not_false, beq_self_eq_true, bne_self_eq_false, not_true_eq_false, not_false_eq_true] <;> with_reducible rfl)); (case ha => (simp (disch := first | omega | (simp only [go_sem]; omega)) only [go_sem, get_miss, seval, reduceCtorEq, eq_self_iff_true, decide_true, decide_false, Bool.not_true, Bool.not_false, beq_self_eq_true, bne_self_eq_false, not_true_eq_false, not_false_eq_true] <;> with_reducible rfl)); (case he => (simp only [go_sem] <;> with_reducible rfl)); (case hcl => (simp)); (case hf => (simp only [go_sem] <;> with_reducible rfl)))
      | (apply aL_pure cxG (hk); (case hg => (simp (disch := first | omega | (simp only [go_sem]; omega)) only [go_sem, get_miss, seval, reduceCtorEq, eq_self_iff_true, decide_true, decide_false, Bool.not_true, Bool.not_false, beq_self_eq_true, bne_self_eq_false, not_true_eq_false, not_false_eq_true])); (case hx => (simp (disch := first | omega | (simp only [go_sem]; omega)) only [go_sem, get_miss, seval, reduceCtorEq, eq_self_iff_true, decide_true, decide_false, Bool.not_true, Bool.not_false, beq_self_eq_true, bne_self_eq_false, not_true_eq_false, not_false_eq_true] <;> with_reducible rfl)); (case ha => (simp (disch := first | omega | (simp only [go_sem]; omega)) only [go_sem, get_miss, seval, reduceCtorEq, eq_self_iff_true, decide_true, decide_false, Bool.not_true, Bool.not_false, beq_self_eq_true, bne_self_eq_false, not_true_eq_false, not_false_eq_true] <;> with_reducible rfl)); (case he => (simp only [go_sem] <;> with_reducible rfl)); (case hcl => (simp)); (case hf => (simp only [go_sem] <;> with_reducible rfl)))
      | fail)
    all_goals try (first | exact True.intro | exact not_false | omega)
    all_goals try (simp (disch := first | omega | (simp only [go_sem]; omega)) only [go_sem, get_miss, seval, reduceCtorEq] <;> first | exact True.intro | omega)
    all_goals (clear ht hk n0 n2)
    all_goals try (simp (disch := first | omega | (simp only [go_sem]; omega)) only [go_sem, get_miss, seval, reduceCtorEq])
    all_goals try simp
  case pos =>
  have hn := call_Name op
  have ha := call_Arity op
  rw [if_pos h.1] at ha
  have hL := call_List false [(op, xs)] (fun c hc => by rw [List.mem_singleton.1 hc]; exact ⟨hx, hw⟩) (by simp)
  rw [if_neg (by simp), if_pos (fun c hc => by rw [List.mem_singleton.1 hc]; exact h)] at hL
  have e1 : listT [(op, xs)] = ctx op xs ++ [10] := by simp [listT]
  have e2 : cvs [(op, xs)] = [.agg (.int .i64 op :: wl xs)] := rfl
  rw [e1, e2] at hL
  have ho := call_Op h.1
  have hc := car_in h.1
  have hm : ∀ S : St, S[0]? = some (.cells (.int .i64 op :: wl xs) 32) → ACall cx 18 [.int .i64 op, .view 0 1 (car op - 0) 6] S (.tup [.agg (.int .i64 op :: wl xs), .int .i64 0]) S := fun S hS => make_view h hx hS (by omega)
  have q1 := aeqs_wl (a := xs) (b := xs) rfl
  rw [decide_eq_true rfl] at q1
  have q3 := skbs_wl (a := xs) (b := [0, 0, 0, 0, 0, 0]) hx
  have hX : (cnm op).length < (ctx op xs).length ∧ (ctx op xs).take (cnm op).length = cnm op := by
    unfold ctx ctxK
    refine ⟨?_, List.take_left ..⟩
    obtain ⟨x, l, e⟩ : ∃ x l, xs.take (car op) = x :: l := by
      cases e : xs.take (car op) with
      | nil =>
        have := congrArg List.length e
        rw [List.length_take, hx] at this
        simp at this
        omega
      | cons x l => exact ⟨x, l, rfl⟩
    rw [e]
    simp
  have hl := ctx_len (op := op) hw
  rw [if_pos h] at ht
  obtain ⟨hX1, hX2⟩ := hX
  clear e1 e2
  generalize ctx op xs = X at *
  generalize cnm op = W at *
  generalize car op = K at *
  clear h
  refine pure_fn cxOk Tryd.func6 (by kernel_rfl) (fun _ => false) (fe6.q) (by kernel_rfl) (Nat.le_of_ble_eq_true (by kernel_rfl)) ?_
  dsimp only [LB, Tryd.f6, lite, nextOf, Option.isNone, Bool.not_true, Bool.not_false, Bool.and_true, Bool.true_and, Bool.false_and, Bool.and_self, Bool.false_eq_true, if_false, if_true, ↓reduceIte, liteO, List.map, Option.map, frame0, List.zipIdx, Nat.reduceAdd]
  try simp only [List.getElem?_toArray, List.getElem?_cons_succ, List.getElem?_cons_zero, Option.bind_some]
  repeat' (first
    | refine aC_seq ?_
    | refine aC_reg rfl ?_
    | refine aC_skip ?_
    | refine thenQ_normal ?_
    | refine aL_nil ?_
    | (apply aL_step; (· exact True.intro); (· simp (disch := first | omega | (simp only [go_sem]; omega)) only [go_sem, get_miss, seval, reduceCtorEq, eq_self_iff_true, decide_true, decide_false, Bool.not_true, Bool.not_false, beq_self_eq_true, bne_self_eq_false, not_true_eq_false, not_false_eq_true, hX2, hx]); (· simp (disch := first | omega | (simp only [go_sem]; omega)) only [go_sem, get_miss, seval, reduceCtorEq, eq_self_iff_true, decide_true, decide_false, Bool.not_true, Bool.not_false, beq_self_eq_true, bne_self_eq_false, not_true_eq_false, not_false_eq_true, hX2, hx] <;> with_reducible rfl); (· simp only [go_sem] <;> with_reducible rfl))
    | (apply aL_guardN; (· simp (disch := first | omega | (simp only [go_sem]; omega)) only [go_sem, get_miss, seval, reduceCtorEq, eq_self_iff_true, decide_true, decide_false, Bool.not_true, Bool.not_false, beq_self_eq_true, bne_self_eq_false, not_true_eq_false, not_false_eq_true, hX2, hx] <;> with_reducible rfl); all_goals (intro h; first | (exfalso; omega) | (simp only [h, decide_true, decide_false, not_true, not_false_iff])))
    | (refine aC_condF ?_ ?_; (· simp (disch := first | omega | (simp only [go_sem]; omega)) only [go_sem, get_miss, seval, reduceCtorEq, eq_self_iff_true, decide_true, decide_false, Bool.not_true, Bool.not_false, beq_self_eq_true, bne_self_eq_false, not_true_eq_false, not_false_eq_true, hX2, hx]))
    | (apply aL_pure cxG (ht); (case hg => (simp (disch := first | omega | (simp only [go_sem]; omega)) only [go_sem, get_miss, seval, reduceCtorEq, eq_self_iff_true, decide_true, decide_false, Bool.not_true, Bool.not_false, beq_self_eq_true, bne_self_eq_false, not_true_eq_false, not_false_eq_true, hX2, hx])); (case hx => (simp (disch := first | omega | (simp only [go_sem]; omega)) only [go_sem, get_miss, seval, reduceCtorEq, eq_self_iff_true, decide_true, decide_false, Bool.not_true, Bool.not_false, beq_self_eq_true, bne_self_eq_false, not_true_eq_false, not_false_eq_true, hX2, hx] <;> with_reducible rfl)); (case ha => (simp (disch := first | omega | (simp only [go_sem]; omega)) only [go_sem, get_miss, seval, reduceCtorEq, eq_self_iff_true, decide_true, decide_false, Bool.not_true, Bool.not_false, beq_self_eq_true, bne_self_eq_false, not_true_eq_false, not_false_eq_true, hX2, hx] <;> with_reducible rfl)); (case he => (simp only [go_sem] <;> with_reducible rfl)); (case hcl => (simp)); (case hf => (simp only [go_sem] <;> with_reducible rfl)))
    | (apply aL_pure cxG (n0); (case hg => (simp (disch := first | omega | (simp only [go_sem]; omega)) only [go_sem, get_miss, seval, reduceCtorEq, eq_self_iff_true, decide_true, decide_false, Bool.not_true, Bool.not_false, beq_self_eq_true, bne_self_eq_false, not_true_eq_false, not_false_eq_true, hX2, hx])); (case hx => (simp (disch := first | omega | (simp only [go_sem]; omega)) only [go_sem, get_miss, seval, reduceCtorEq, eq_self_iff_true, decide_true, decide_false, Bool.not_true, Bool.not_false, beq_self_eq_true, bne_self_eq_false, not_true_eq_false, not_false_eq_true, hX2, hx] <;> with_reducible rfl)); (case ha => (simp (disch := first | omega | (simp only [go_sem]; omega)) only [go_sem, get_miss, seval, reduceCtorEq, eq_self_iff_true, decide_true, decide_false, Bool.not_true, Bool.not_false, beq_self_eq_true, bne_self_eq_false, not_true_eq_false, not_false_eq_true, hX2, hx] <;> with_reducible rfl)); (case he => (simp only [go_sem] <;> with_reducible rfl)); (case hcl => (simp)); (case hf => (simp only [go_sem] <;> with_reducible rfl)))
    | (apply aL_pure cxG (hn); (case hg => (simp (disch := first | omega | (simp only [go_sem]; omega)) only [go_sem, get_miss, seval, reduceCtorEq, eq_self_iff_true, decide_true, decide_false, Bool.not_true, Bool.not_false, beq_self_eq_true, bne_self_eq_false, not_true_eq_false, not_false_eq_true, hX2, hx])); (case hx => (simp (disch := first | omega | (simp only [go_sem]; omega)) only [go_sem, get_miss, seval, reduceCtorEq, eq_self_iff_true, decide_true, decide_false, Bool.not_true, Bool.not_false, beq_self_eq_true, bne_self_eq_false, not_true_eq_false, not_false_eq_true, hX2, hx] <;> with_reducible rfl)); (case ha => (simp (disch := first | omega | (simp only [go_sem]; omega)) only [go_sem, get_miss, seval, reduceCtorEq, eq_self_iff_true, decide_true, decide_false, Bool.not_true, Bool.not_false, beq_self_eq_true, bne_self_eq_false, not_true_eq_false, not_false_eq_true, hX2, hx] <;> with_reducible rfl)); (case he => (simp only [go_sem] <;> with_reducible rfl)); (case hcl => (simp)); (case hf => (simp only [go_sem] <;> with_reducible rfl)))
    | (apply aL_pure cxG (hL); (case hg => (simp (disch := first | omega | (simp only [go_sem]; omega)) only [go_sem, get_miss, seval, reduceCtorEq, eq_self_iff_true, decide_true, decide_false, Bool.not_true, Bool.not_false, beq_self_eq_true, bne_self_eq_false, not_true_eq_false, not_false_eq_true, hX2, hx])); (case hx => (simp (disch := first | omega | (simp only [go_sem]; omega)) only [go_sem, get_miss, seval, reduceCtorEq, eq_self_iff_true, decide_true, decide_false, Bool.not_true, Bool.not_false, beq_self_eq_true, bne_self_eq_false, not_true_eq_false, not_false_eq_true, hX2, hx] <;> with_reducible rfl)); (case ha => (simp (disch := first | omega | (simp only [go_sem]; omega)) only [go_sem, get_miss, seval, reduceCtorEq, eq_self_iff_true, decide_true, decide_false, Bool.not_true, Bool.not_false, beq_self_eq_true, bne_self_eq_false, not_true_eq_false, not_false_eq_true, hX2, hx] <;> with_reducible rfl)); (case he => (simp only [go_sem] <;> with_reducible rfl)); (case hcl => (simp)); (case hf => (simp only [go_sem] <;> with_reducible rfl)))
    | (apply aL_pure cxG (ha); (case hg => (simp (disch := first | omega | (simp only [go_sem]; omega)) only [go_sem, get_miss, seval, reduceCtorEq, eq_self_iff_true, decide_true, decide_false, Bool.not_true, Bool.not_false, beq_self_eq_true, bne_self_eq_false, not_true_eq_false, not_false_eq_true, hX2, hx])); (case hx => (simp (disch := first | omega | (simp only [go_sem]; omega)) only [go_sem, get_miss, seval, reduceCtorEq, eq_self_iff_true, decide_true, decide_false, Bool.not_true, Bool.not_false, beq_self_eq_true, bne_self_eq_false, not_true_eq_false, not_false_eq_true, hX2, hx] <;> with_reducible rfl)); (case ha => (simp (disch := first | omega | (simp only [go_sem]; omega)) only [go_sem, get_miss, seval, reduceCtorEq, eq_self_iff_true, decide_true, decide_false, Bool.not_true, Bool.not_false, beq_self_eq_true, bne_self_eq_false, not_true_eq_false, not_false_eq_true, hX2, hx] <;> with_reducible rfl)); (case he => (simp only [go_sem] <;> with_reducible rfl)); (case hcl => (simp)); (case hf => (simp only [go_sem] <;> with_reducible rfl)))
    | fail)
  refine aC_regH (U := [(some 70, some 9)]) rfl [(some 70, 0)] [(1, .cells [.int .i64 0, .int .u64 0, .int .u64 0, .int .u64 0, .int .u64 0, .int .u64 0, .int .u64 0] 32)] 1 ?_
  simp only [List.replicate]
  repeat' (first
    | refine aLH_nil ?_
    | (apply aLH_step; (· exact True.intro); (· rfl); (· rfl); (· simp (disch := first | omega | (simp only [go_sem]; omega)) only [go_sem, get_miss, seval, reduceCtorEq, hx]); (· simp (disch := first | omega | (simp only [go_sem]; omega)) only [go_sem, get_miss, seval, reduceCtorEq, hx] <;> with_reducible rfl); (· simp only [go_sem] <;> with_reducible rfl); (· (intro b hb; first | (cases hb; done) | (simp (disch := first | omega | (simp only [go_sem]; omega)) only [loadBox, go_sem, get_miss, seval, reduceCtorEq] at hb; (try injection hb with hb); subst hb; simp))))
    | (apply aLH_write; (· exact True.intro); (· rfl); (· rfl); (· rfl); (· simp (disch := first | omega | (simp only [go_sem]; omega)) only [go_sem, get_miss, seval, reduceCtorEq, hx]); (· simp (disch := first | omega | (simp only [go_sem]; omega)) only [go_sem, get_miss, seval, reduceCtorEq, hx] <;> with_reducible rfl); (· simp only [go_sem] <;> with_reducible rfl); (· simp); (· simp); (· simp))
    | (apply aLH_lend (hm); (case hp => (rfl)); (case hz => (intro h; cases h)); (case hS => (rfl)); (case hg => (simp (disch := first | omega | (simp only [go_sem]; omega)) only [go_sem, get_miss, seval, reduceCtorEq, hx])); (case hx => (simp (disch := first | omega | (simp only [go_sem]; omega)) only [go_sem, get_miss, seval, reduceCtorEq, hx] <;> with_reducible rfl)); (case ha => (simp (disch := first | omega | (simp only [go_sem]; omega)) only [go_sem, get_miss, seval, reduceCtorEq, hx] <;> with_reducible rfl)); (case he => (with_reducible rfl)); (case hf => (simp only [go_sem] <;> with_reducible rfl)))
    | (apply aLH_alloc 1; (case hg => (simp (disch := first | omega | (simp only [go_sem]; omega)) only [go_sem, get_miss, seval, reduceCtorEq, hx])); (case hi => (simp (disch := first | omega | (simp only [go_sem]; omega)) only [go_sem, get_miss, seval, reduceCtorEq, hx] <;> with_reducible rfl)); (case hs => (simp (disch := first | omega | (simp only [go_sem]; omega)) only [go_sem, get_miss, seval, reduceCtorEq, hx] <;> with_reducible rfl)); (case hS => (simp (disch := first | omega | (simp only [go_sem]; omega)) only [go_sem, get_miss, seval, reduceCtorEq, hx] <;> with_reducible rfl)); (case hf => (simp only [go_sem] <;> with_reducible rfl)); (case hH => (simp)); (case hk => (simp)))
    | fail)
  repeat' (first
    | refine aC_seq ?_
    | refine thenQ_normal ?_
    | fail)
  refine aC_regB (U := [(some 89, some 87)]) rfl [(some 81, 1), (some 82, 0), (some 89, 0)] ?_
  repeat' (first
    | refine aLB_nil ?_
    | (apply aLB_step; (· exact True.intro); (· exact (by intro h; cases h)); (· rfl); (· simp (disch := first | omega | (simp only [go_sem]; omega)) only [go_sem, get_miss, seval, reduceCtorEq, eq_self_iff_true, decide_true, decide_false, Bool.not_true, Bool.not_false, beq_self_eq_true, bne_self_eq_false, not_true_eq_false, not_false_eq_true, aeqs_cons, aeq_int, q1, hx, Bool.and_self, Bool.and_true]); (· simp (disch := first | omega | (simp only [go_sem]; omega)) only [go_sem, get_miss, seval, reduceCtorEq, eq_self_iff_true, decide_true, decide_false, Bool.not_true, Bool.not_false, beq_self_eq_true, bne_self_eq_false, not_true_eq_false, not_false_eq_true, aeqs_cons, aeq_int, q1, hx, Bool.and_self, Bool.and_true] <;> with_reducible rfl); (· simp only [go_sem] <;> with_reducible rfl); (· (intro b hb; first | (cases hb; done) | (simp (disch := first | omega | (simp only [go_sem]; omega)) only [loadBox, go_sem, get_miss, seval, reduceCtorEq] at hb; (try injection hb with hb); subst hb; simp))))
    | (apply aLB_pure cxG (n0); (case hg => (simp (disch := first | omega | (simp only [go_sem]; omega)) only [go_sem, get_miss, seval, reduceCtorEq, eq_self_iff_true, decide_true, decide_false, Bool.not_true, Bool.not_false, beq_self_eq_true, bne_self_eq_false, not_true_eq_false, not_false_eq_true, aeqs_cons, aeq_int, q1, hx, Bool.and_self, Bool.and_true])); (case hx => (simp (disch := first | omega | (simp only [go_sem]; omega)) only [go_sem, get_miss, seval, reduceCtorEq, eq_self_iff_true, decide_true, decide_false, Bool.not_true, Bool.not_false, beq_self_eq_true, bne_self_eq_false, not_true_eq_false, not_false_eq_true, aeqs_cons, aeq_int, q1, hx, Bool.and_self, Bool.and_true] <;> with_reducible rfl)); (case ha => (simp (disch := first | omega | (simp only [go_sem]; omega)) only [go_sem, get_miss, seval, reduceCtorEq, eq_self_iff_true, decide_true, decide_false, Bool.not_true, Bool.not_false, beq_self_eq_true, bne_self_eq_false, not_true_eq_false, not_false_eq_true, aeqs_cons, aeq_int, q1, hx, Bool.and_self, Bool.and_true] <;> with_reducible rfl)); (case he => (simp only [go_sem] <;> with_reducible rfl)); (case hcl => (simp)); (case hf => (simp only [go_sem] <;> with_reducible rfl)))
    | (apply aLB_pure cxG (ho); (case hg => (simp (disch := first | omega | (simp only [go_sem]; omega)) only [go_sem, get_miss, seval, reduceCtorEq, eq_self_iff_true, decide_true, decide_false, Bool.not_true, Bool.not_false, beq_self_eq_true, bne_self_eq_false, not_true_eq_false, not_false_eq_true, aeqs_cons, aeq_int, q1, hx, Bool.and_self, Bool.and_true])); (case hx => (simp (disch := first | omega | (simp only [go_sem]; omega)) only [go_sem, get_miss, seval, reduceCtorEq, eq_self_iff_true, decide_true, decide_false, Bool.not_true, Bool.not_false, beq_self_eq_true, bne_self_eq_false, not_true_eq_false, not_false_eq_true, aeqs_cons, aeq_int, q1, hx, Bool.and_self, Bool.and_true] <;> with_reducible rfl)); (case ha => (simp (disch := first | omega | (simp only [go_sem]; omega)) only [go_sem, get_miss, seval, reduceCtorEq, eq_self_iff_true, decide_true, decide_false, Bool.not_true, Bool.not_false, beq_self_eq_true, bne_self_eq_false, not_true_eq_false, not_false_eq_true, aeqs_cons, aeq_int, q1, hx, Bool.and_self, Bool.and_true] <;> with_reducible rfl)); (case he => (simp only [go_sem] <;> with_reducible rfl)); (case hcl => (simp)); (case hf => (simp only [go_sem] <;> with_reducible rfl)))
    | (apply aLB_pure cxG (hk); (case hg => (simp (disch := first | omega | (simp only [go_sem]; omega)) only [go_sem, get_miss, seval, reduceCtorEq, eq_self_iff_true, decide_true, decide_false, Bool.not_true, Bool.not_false, beq_self_eq_true, bne_self_eq_false, not_true_eq_false, not_false_eq_true, aeqs_cons, aeq_int, q1, hx, Bool.and_self, Bool.and_true])); (case hx => (simp (disch := first | omega | (simp only [go_sem]; omega)) only [go_sem, get_miss, seval, reduceCtorEq, eq_self_iff_true, decide_true, decide_false, Bool.not_true, Bool.not_false, beq_self_eq_true, bne_self_eq_false, not_true_eq_false, not_false_eq_true, aeqs_cons, aeq_int, q1, hx, Bool.and_self, Bool.and_true] <;> with_reducible rfl)); (case ha => (simp (disch := first | omega | (simp only [go_sem]; omega)) only [go_sem, get_miss, seval, reduceCtorEq, eq_self_iff_true, decide_true, decide_false, Bool.not_true, Bool.not_false, beq_self_eq_true, bne_self_eq_false, not_true_eq_false, not_false_eq_true, aeqs_cons, aeq_int, q1, hx, Bool.and_self, Bool.and_true] <;> with_reducible rfl)); (case he => (simp only [go_sem] <;> with_reducible rfl)); (case hcl => (simp)); (case hf => (simp only [go_sem] <;> with_reducible rfl)))
    | fail)
  repeat' (first
    | refine aC_ret ?_
    | refine thenQ_normal ?_
    | fail)
  all_goals try (first | exact True.intro | exact not_false | omega)
  all_goals try (simp (disch := first | omega | (simp only [go_sem]; omega)) only [go_sem, get_miss, seval, reduceCtorEq] <;> first | exact True.intro | omega)
  all_goals (clear ht hk n0 n2 hn ha hL ho hm)
  all_goals try (simp (disch := first | omega | (simp only [go_sem]; omega)) only [go_sem, get_miss, seval, reduceCtorEq])
  all_goals try simp
  all_goals exact ⟨by kernel_rfl, by kernel_rfl, q3⟩
end
end Go.Am
