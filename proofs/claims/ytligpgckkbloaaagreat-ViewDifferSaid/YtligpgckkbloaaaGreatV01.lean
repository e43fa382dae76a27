/- View chapter: slices.Equal. -/
import Derived.Test.YtligpgckkbloaaaGreatP01
import Derived.Test.YtligpgckkbloaaaGreatV00
set_option linter.unusedVariables false
set_option linter.unusedSimpArgs false
namespace Go.Am
open Go Go.Proofs
set_option maxHeartbeats 8000000
set_option maxRecDepth 100000
section
attribute [local irreducible] aC aL thenQ blockQ scopeQ ALoop AWp
theorem take_step {α : Type} {a b : List α} {k : Nat} (ha : k < a.length) (hb : k < b.length) (h : a.take k = b.take k) (e : a[k] = b[k]) : a.take (k + 1) = b.take (k + 1) := by
  rw [List.take_succ_eq_append_getElem ha, List.take_succ_eq_append_getElem hb, h, e]
theorem ne_at {α : Type} {a b : List α} {k : Nat} (ha : k < a.length) (hb : k < b.length) (e : ¬ a[k] = b[k]) : a ≠ b := by
  rintro rfl; exact e rfl
def els {α : Type} (enc : α → List AVal) (l : List α) : List AVal := l.map fun x => .agg (enc x)
@[simp] theorem length_els {α : Type} (enc : α → List AVal) (l : List α) : (els enc l).length = l.length := by simp [els]
@[simp] theorem closed_els {α : Type} (enc : α → List AVal) (l : List α) : (∀ x ∈ els enc l, Closed x) ↔ ∀ x ∈ l, ∀ c ∈ enc x, Closed c := by
  constructor
  · intro h x hx
    have := h (.agg (enc x)) (List.mem_map.2 ⟨x, hx, rfl⟩)
    simpa [Closed] using this
  · intro h y hy
    obtain ⟨x, hx, rfl⟩ := List.mem_map.1 hy
    simpa [Closed] using h x hx
theorem getD_els {α : Type} (enc : α → List AVal) (l : List α) (k : Nat) (z : AVal) (h : k < l.length) : (els enc l).getD k z = .agg (enc l[k]) := by simp [els, List.getD, h]
def il (l : List Int) : List AVal := l.map fun n => .int .i64 n
@[simp] theorem length_il (l : List Int) : (il l).length = l.length := by simp [il]
theorem getD_il (l : List Int) (k : Nat) (z : AVal) (h : k < l.length) : (il l).getD k z = .int .i64 l[k] := by simp [il, List.getD, h]
@[simp] theorem closed_il (l : List Int) : (∀ x ∈ il l, Closed x) ↔ True := ⟨fun _ => trivial, fun _ x hx => by obtain ⟨b, _, rfl⟩ := List.mem_map.1 hx; simp⟩
attribute [go_sem] length_il length_els
theorem equal_gs (n1 n2 : Bool) (a b : List Int) (hl : a.length ≤ 1048576) (hl2 : b.length ≤ 9223372036854775807) :
    APure cx 16 [.sl 1 n1 (il a) .any, .sl 1 n2 (il b) .any] (.bool (decide (a = b))) := by
  by_cases hn : a.length = b.length
  case neg =>
    rw [decide_eq_false (fun e => hn (by rw [e]))]
    have hn' : ¬ ((a.length : Int) = (b.length : Int)) := by omega
    refine pure_fnK cxOk Tryz.func16 (fun _ => false) (fe16.q) (by kernel_rfl) (by dsimp only [Tryz.f16, go_sem, seval, liteO, Option.map, List.map]; exact .mk _) ?_
    dsimp only [Tryz.f16, frame0, List.zipIdx, List.map, Nat.reduceAdd]
    try simp only [List.getElem?_toArray, List.getElem?_cons_succ, List.getElem?_cons_zero, Option.bind_some]
    repeat' (first | refine aC_seq ?_ | refine aC_reg rfl ?_ | refine aC_block ?_ | refine aC_skip ?_ | refine aC_loop ?_ | refine aC_scope ?_ | refine scopeQ_normal ?_ | refine scopeQ_exit ?_ | refine scopeQ_ret ?_ | refine aC_exit ?_ | refine aC_ret ?_ | refine thenQ_normal ?_ | refine blockQ_normal ?_ | refine thenQ_ret ?_ | refine blockQ_ret ?_ | refine thenQ_exit ?_ | refine blockQ_hit ?_ | refine blockQ_miss rfl ?_ | refine aL_nil ?_ | (apply aL_step; (· exact True.intro); (iterate 2 (· simp (disch := first | omega | (simp only [go_sem]; omega)) only [go_sem, seval, reduceCtorEq, hn', decide_false, not_false_eq_true, decide_true] <;> with_reducible rfl)); (· simp only [go_sem] <;> with_reducible rfl)) | (refine aL_skip ?_ (by simp only [go_sem] <;> with_reducible rfl) ?_; (· simp (disch := first | omega | (simp only [go_sem]; omega)) only [go_sem, seval, reduceCtorEq, hn', decide_false, not_false_eq_true, decide_true])) | (apply aL_guardN; (· simp (disch := first | omega | (simp only [go_sem]; omega)) only [go_sem, seval, reduceCtorEq, hn', decide_false, not_false_eq_true, decide_true] <;> with_reducible rfl); all_goals (intro h; first | (exfalso; omega) | (simp only [h, decide_true, decide_false, not_true, not_false_iff]))) | (apply aL_guardP; (· simp (disch := first | omega | (simp only [go_sem]; omega)) only [go_sem, seval, reduceCtorEq, hn', decide_false, not_false_eq_true, decide_true] <;> with_reducible rfl); all_goals (intro h; first | (exfalso; omega) | (simp only [h, decide_true, decide_false, not_true, not_false_iff]))) | (refine aC_condT ?_ ?_; (· simp (disch := first | omega | (simp only [go_sem]; omega)) only [go_sem, seval, reduceCtorEq, hn', decide_false, not_false_eq_true, decide_true])) | (refine aC_condF ?_ ?_; (· simp (disch := first | omega | (simp only [go_sem]; omega)) only [go_sem, seval, reduceCtorEq, hn', decide_false, not_false_eq_true, decide_true])) | (refine aC_condP (by simp (disch := first | omega | (simp only [go_sem]; omega)) only [go_sem, seval, reduceCtorEq, hn', decide_false, not_false_eq_true, decide_true] <;> with_reducible rfl) ?_ ?_ <;> (intro h; first | (exfalso; omega) | skip)) | fail)
    all_goals try (first | exact True.intro | exact not_false | omega | (simp (disch := first | omega | (simp only [go_sem]; omega)) only [go_sem, seval, reduceCtorEq] <;> omega))
    all_goals try (simp (disch := first | omega | (simp only [go_sem]; omega)) only [go_sem, seval, reduceCtorEq])
    all_goals try simp
  case pos =>
    generalize hr : decide (a = b) = r
    have hyes : a.take a.length = b.take a.length → r = true := fun h => by
      rw [← hr]; refine decide_eq_true ?_
      rw [List.take_length] at h
      rw [hn, List.take_length] at h
      exact h
    have hno : ∀ (k : Nat) (h1 : k < a.length) (h2 : k < b.length), ¬ a[k] = b[k] → r = false := fun k h1 h2 h3 => by rw [← hr]; exact decide_eq_false (ne_at h1 h2 h3)
    clear hr
    have hn' : ((a.length : Int) = (b.length : Int)) := by omega
    refine pure_fnK cxOk Tryz.func16 (fun _ => false) (fe16.q) (by kernel_rfl) (by dsimp only [Tryz.f16, go_sem, seval, liteO, Option.map, List.map]; exact .mk _) ?_
    dsimp only [Tryz.f16, frame0, List.zipIdx, List.map, Nat.reduceAdd]
    try simp only [List.getElem?_toArray, List.getElem?_cons_succ, List.getElem?_cons_zero, Option.bind_some]
    repeat' (first | refine aC_seq ?_ | refine aC_reg rfl ?_ | refine aC_block ?_ | refine aC_skip ?_ | refine aC_loop ?_ | refine aC_scope ?_ | refine scopeQ_normal ?_ | refine scopeQ_exit ?_ | refine scopeQ_ret ?_ | refine aC_exit ?_ | refine aC_ret ?_ | refine thenQ_normal ?_ | refine blockQ_normal ?_ | refine thenQ_ret ?_ | refine blockQ_ret ?_ | refine thenQ_exit ?_ | refine blockQ_hit ?_ | refine blockQ_miss rfl ?_ | refine aL_nil ?_ | (apply aL_step; (· exact True.intro); (iterate 2 (· simp (disch := first | omega | (simp only [go_sem]; omega)) only [go_sem, seval, reduceCtorEq, hn', eq_self_iff_true, decide_true, not_true_eq_false, decide_false] <;> with_reducible rfl)); (· simp only [go_sem] <;> with_reducible rfl)) | (refine aL_skip ?_ (by simp only [go_sem] <;> with_reducible rfl) ?_; (· simp (disch := first | omega | (simp only [go_sem]; omega)) only [go_sem, seval, reduceCtorEq, hn', eq_self_iff_true, decide_true, not_true_eq_false, decide_false])) | (apply aL_guardN; (· simp (disch := first | omega | (simp only [go_sem]; omega)) only [go_sem, seval, reduceCtorEq, hn', eq_self_iff_true, decide_true, not_true_eq_false, decide_false] <;> with_reducible rfl); all_goals (intro h; first | (exfalso; omega) | (simp only [h, decide_true, decide_false, not_true, not_false_iff]))) | (apply aL_guardP; (· simp (disch := first | omega | (simp only [go_sem]; omega)) only [go_sem, seval, reduceCtorEq, hn', eq_self_iff_true, decide_true, not_true_eq_false, decide_false] <;> with_reducible rfl); all_goals (intro h; first | (exfalso; omega) | (simp only [h, decide_true, decide_false, not_true, not_false_iff]))) | (refine aC_condT ?_ ?_; (· simp (disch := first | omega | (simp only [go_sem]; omega)) only [go_sem, seval, reduceCtorEq, hn', eq_self_iff_true, decide_true, not_true_eq_false, decide_false])) | (refine aC_condF ?_ ?_; (· simp (disch := first | omega | (simp only [go_sem]; omega)) only [go_sem, seval, reduceCtorEq, hn', eq_self_iff_true, decide_true, not_true_eq_false, decide_false])) | (refine aC_condP (by simp (disch := first | omega | (simp only [go_sem]; omega)) only [go_sem, seval, reduceCtorEq, hn', eq_self_iff_true, decide_true, not_true_eq_false, decide_false] <;> with_reducible rfl) ?_ ?_ <;> (intro h; first | (exfalso; omega) | skip)) | fail)
    · refine loop_rule (cxOk.wp _ _) (σ := Nat) (fun k => [(13, .int .i64 k), (12, .int .i64 a.length), (1, .sl 1 n2 (il b) .any), (0, .sl 1 n1 (il a) .any)])
        (fun _ => []) (fun k => a.length - k) (fun k => k ≤ a.length ∧ a.take k = b.take k) 0 (GStep.refl _ _) ⟨⟨Nat.zero_le _, by simp⟩, Sub.of_all (by simp [Fr.get, frame0, hn']), rfl⟩ ?_
      rintro k ⟨hk, hJ⟩
      by_cases hlt : k < a.length
      · have hlb : k < b.length := by omega
        have g1 := getD_il a k .any hlt
        have g2 := getD_il b k .any hlb
        have hq := take_step hlt hlb hJ
        have hq2 := hno k hlt hlb
        clear hno hyes hJ
        by_cases he : a[k] = b[k]
        case' pos => have hq3 := hq he; clear hq2 hq
        case' neg => rw [hq2 he]; clear hq hq2
        all_goals
        generalize a[k] = x at *
        generalize b[k] = y at *
        repeat' (first | refine aC_seq ?_ | refine aC_reg rfl ?_ | refine aC_block ?_ | refine aC_skip ?_ | refine aC_loop ?_ | refine aC_scope ?_ | refine scopeQ_normal ?_ | refine scopeQ_exit ?_ | refine scopeQ_ret ?_ | refine aC_exit ?_ | refine aC_ret ?_ | refine thenQ_normal ?_ | refine blockQ_normal ?_ | refine thenQ_ret ?_ | refine blockQ_ret ?_ | refine thenQ_exit ?_ | refine blockQ_hit ?_ | refine blockQ_miss rfl ?_ | refine aL_nil ?_ | (apply aL_step; (· exact True.intro); (iterate 2 (· simp (disch := first | omega | (simp only [go_sem]; omega)) only [go_sem, seval, reduceCtorEq, g1, g2, he, eq_self_iff_true, decide_true, decide_false, not_true_eq_false, not_false_eq_true] <;> with_reducible rfl)); (· simp only [go_sem] <;> with_reducible rfl)) | (refine aL_skip ?_ (by simp only [go_sem] <;> with_reducible rfl) ?_; (· simp (disch := first | omega | (simp only [go_sem]; omega)) only [go_sem, seval, reduceCtorEq, g1, g2, he, eq_self_iff_true, decide_true, decide_false, not_true_eq_false, not_false_eq_true])) | (apply aL_guardN; (· simp (disch := first | omega | (simp only [go_sem]; omega)) only [go_sem, seval, reduceCtorEq, g1, g2, he, eq_self_iff_true, decide_true, decide_false, not_true_eq_false, not_false_eq_true] <;> with_reducible rfl); all_goals (intro h; first | (exfalso; omega) | (simp only [h, decide_true, decide_false, not_true, not_false_iff]))) | (apply aL_guardP; (· simp (disch := first | omega | (simp only [go_sem]; omega)) only [go_sem, seval, reduceCtorEq, g1, g2, he, eq_self_iff_true, decide_true, decide_false, not_true_eq_false, not_false_eq_true] <;> with_reducible rfl); all_goals (intro h; first | (exfalso; omega) | (simp only [h, decide_true, decide_false, not_true, not_false_iff]))) | (refine aC_condT ?_ ?_; (· simp (disch := first | omega | (simp only [go_sem]; omega)) only [go_sem, seval, reduceCtorEq, g1, g2, he, eq_self_iff_true, decide_true, decide_false, not_true_eq_false, not_false_eq_true])) | (refine aC_condF ?_ ?_; (· simp (disch := first | omega | (simp only [go_sem]; omega)) only [go_sem, seval, reduceCtorEq, g1, g2, he, eq_self_iff_true, decide_true, decide_false, not_true_eq_false, not_false_eq_true])) | (refine aC_condP (by simp (disch := first | omega | (simp only [go_sem]; omega)) only [go_sem, seval, reduceCtorEq, g1, g2, he, eq_self_iff_true, decide_true, decide_false, not_true_eq_false, not_false_eq_true] <;> with_reducible rfl) ?_ ?_ <;> (intro h; first | (exfalso; omega) | skip)) | fail)
        all_goals try (first | exact True.intro | exact not_false | omega | (simp (disch := first | omega | (simp only [go_sem]; omega)) only [go_sem, seval, reduceCtorEq] <;> omega))
        all_goals try (exact ⟨k + 1, ⟨by omega, hq3⟩, Sub.of_all (by simp [Fr.get]), rfl, by omega⟩)
        all_goals try (simp (disch := first | omega | (simp only [go_sem]; omega)) only [go_sem, seval, reduceCtorEq, he])
        all_goals try simp [he]
      · have hk2 : k = a.length := by omega
        subst hk2
        rw [hyes hJ]
        clear hno hyes hJ
        repeat' (first | refine aC_seq ?_ | refine aC_reg rfl ?_ | refine aC_block ?_ | refine aC_skip ?_ | refine aC_loop ?_ | refine aC_scope ?_ | refine scopeQ_normal ?_ | refine scopeQ_exit ?_ | refine scopeQ_ret ?_ | refine aC_exit ?_ | refine aC_ret ?_ | refine thenQ_normal ?_ | refine blockQ_normal ?_ | refine thenQ_ret ?_ | refine blockQ_ret ?_ | refine thenQ_exit ?_ | refine blockQ_hit ?_ | refine blockQ_miss rfl ?_ | refine aL_nil ?_ | (apply aL_step; (· exact True.intro); (iterate 2 (· simp (disch := first | omega | (simp only [go_sem]; omega)) only [go_sem, seval, reduceCtorEq] <;> with_reducible rfl)); (· simp only [go_sem] <;> with_reducible rfl)) | (refine aL_skip ?_ (by simp only [go_sem] <;> with_reducible rfl) ?_; (· simp (disch := first | omega | (simp only [go_sem]; omega)) only [go_sem, seval, reduceCtorEq])) | (apply aL_guardN; (· simp (disch := first | omega | (simp only [go_sem]; omega)) only [go_sem, seval, reduceCtorEq] <;> with_reducible rfl); all_goals (intro h; first | (exfalso; omega) | (simp only [h, decide_true, decide_false, not_true, not_false_iff]))) | (apply aL_guardP; (· simp (disch := first | omega | (simp only [go_sem]; omega)) only [go_sem, seval, reduceCtorEq] <;> with_reducible rfl); all_goals (intro h; first | (exfalso; omega) | (simp only [h, decide_true, decide_false, not_true, not_false_iff]))) | (refine aC_condT ?_ ?_; (· simp (disch := first | omega | (simp only [go_sem]; omega)) only [go_sem, seval, reduceCtorEq])) | (refine aC_condF ?_ ?_; (· simp (disch := first | omega | (simp only [go_sem]; omega)) only [go_sem, seval, reduceCtorEq])) | (refine aC_condP (by simp (disch := first | omega | (simp only [go_sem]; omega)) only [go_sem, seval, reduceCtorEq] <;> with_reducible rfl) ?_ ?_ <;> (intro h; first | (exfalso; omega) | skip)) | fail)
        all_goals try (first | exact True.intro | exact not_false | omega | (simp (disch := first | omega | (simp only [go_sem]; omega)) only [go_sem, seval, reduceCtorEq] <;> omega))
        all_goals try (simp (disch := first | omega | (simp only [go_sem]; omega)) only [go_sem, seval, reduceCtorEq])
        all_goals try simp
    all_goals trivial
theorem equal_int (n1 n2 : Bool) (a b : List Int) (hl : a.length ≤ 1048576) (hl2 : b.length ≤ 9223372036854775807) :
    APure cx 17 [.sl 1 n1 (il a) .any, .sl 1 n2 (il b) .any] (.bool (decide (a = b))) := by
  by_cases hn : a.length = b.length
  case neg =>
    rw [decide_eq_false (fun e => hn (by rw [e]))]
    have hn' : ¬ ((a.length : Int) = (b.length : Int)) := by omega
    refine pure_fnK cxOk Tryz.func17 (fun _ => false) (fe17.q) (by kernel_rfl) (by dsimp only [Tryz.f17, go_sem, seval, liteO, Option.map, List.map]; exact .mk _) ?_
    dsimp only [Tryz.f17, frame0, List.zipIdx, List.map, Nat.reduceAdd]
    try simp only [List.getElem?_toArray, List.getElem?_cons_succ, List.getElem?_cons_zero, Option.bind_some]
    repeat' (first | refine aC_seq ?_ | refine aC_reg rfl ?_ | refine aC_block ?_ | refine aC_skip ?_ | refine aC_loop ?_ | refine aC_scope ?_ | refine scopeQ_normal ?_ | refine scopeQ_exit ?_ | refine scopeQ_ret ?_ | refine aC_exit ?_ | refine aC_ret ?_ | refine thenQ_normal ?_ | refine blockQ_normal ?_ | refine thenQ_ret ?_ | refine blockQ_ret ?_ | refine thenQ_exit ?_ | refine blockQ_hit ?_ | refine blockQ_miss rfl ?_ | refine aL_nil ?_ | (apply aL_step; (· exact True.intro); (iterate 2 (· simp (disch := first | omega | (simp only [go_sem]; omega)) only [go_sem, seval, reduceCtorEq, hn', decide_false, not_false_eq_true, decide_true] <;> with_reducible rfl)); (· simp only [go_sem] <;> with_reducible rfl)) | (refine aL_skip ?_ (by simp only [go_sem] <;> with_reducible rfl) ?_; (· simp (disch := first | omega | (simp only [go_sem]; omega)) only [go_sem, seval, reduceCtorEq, hn', decide_false, not_false_eq_true, decide_true])) | (apply aL_guardN; (· simp (disch := first | omega | (simp only [go_sem]; omega)) only [go_sem, seval, reduceCtorEq, hn', decide_false, not_false_eq_true, decide_true] <;> with_reducible rfl); all_goals (intro h; first | (exfalso; omega) | (simp only [h, decide_true, decide_false, not_true, not_false_iff]))) | (apply aL_guardP; (· simp (disch := first | omega | (simp only [go_sem]; omega)) only [go_sem, seval, reduceCtorEq, hn', decide_false, not_false_eq_true, decide_true] <;> with_reducible rfl); all_goals (intro h; first | (exfalso; omega) | (simp only [h, decide_true, decide_false, not_true, not_false_iff]))) | (refine aC_condT ?_ ?_; (· simp (disch := first | omega | (simp only [go_sem]; omega)) only [go_sem, seval, reduceCtorEq, hn', decide_false, not_false_eq_true, decide_true])) | (refine aC_condF ?_ ?_; (· simp (disch := first | omega | (simp only [go_sem]; omega)) only [go_sem, seval, reduceCtorEq, hn', decide_false, not_false_eq_true, decide_true])) | (refine aC_condP (by simp (disch := first | omega | (simp only [go_sem]; omega)) only [go_sem, seval, reduceCtorEq, hn', decide_false, not_false_eq_true, decide_true] <;> with_reducible rfl) ?_ ?_ <;> (intro h; first | (exfalso; omega) | skip)) | fail)
    all_goals try (first | exact True.intro | exact not_false | omega | (simp (disch := first | omega | (simp only [go_sem]; omega)) only [go_sem, seval, reduceCtorEq] <;> omega))
    all_goals try (simp (disch := first | omega | (simp only [go_sem]; omega)) only [go_sem, seval, reduceCtorEq])
    all_goals try simp
  case pos =>
    generalize hr : decide (a = b) = r
    have hyes : a.take a.length = b.take a.length → r = true := fun h => by
      rw [← hr]; refine decide_eq_true ?_
      rw [List.take_length] at h
      rw [hn, List.take_length] at h
      exact h
    have hno : ∀ (k : Nat) (h1 : k < a.length) (h2 : k < b.length), ¬ a[k] = b[k] → r = false := fun k h1 h2 h3 => by rw [← hr]; exact decide_eq_false (ne_at h1 h2 h3)
    clear hr
    have hn' : ((a.length : Int) = (b.length : Int)) := by omega
    refine pure_fnK cxOk Tryz.func17 (fun _ => false) (fe17.q) (by kernel_rfl) (by dsimp only [Tryz.f17, go_sem, seval, liteO, Option.map, List.map]; exact .mk _) ?_
    dsimp only [Tryz.f17, frame0, List.zipIdx, List.map, Nat.reduceAdd]
    try simp only [List.getElem?_toArray, List.getElem?_cons_succ, List.getElem?_cons_zero, Option.bind_some]
    repeat' (first | refine aC_seq ?_ | refine aC_reg rfl ?_ | refine aC_block ?_ | refine aC_skip ?_ | refine aC_loop ?_ | refine aC_scope ?_ | refine scopeQ_normal ?_ | refine scopeQ_exit ?_ | refine scopeQ_ret ?_ | refine aC_exit ?_ | refine aC_ret ?_ | refine thenQ_normal ?_ | refine blockQ_normal ?_ | refine thenQ_ret ?_ | refine blockQ_ret ?_ | refine thenQ_exit ?_ | refine blockQ_hit ?_ | refine blockQ_miss rfl ?_ | refine aL_nil ?_ | (apply aL_step; (· exact True.intro); (iterate 2 (· simp (disch := first | omega | (simp only [go_sem]; omega)) only [go_sem, seval, reduceCtorEq, hn', eq_self_iff_true, decide_true, not_true_eq_false, decide_false] <;> with_reducible rfl)); (· simp only [go_sem] <;> with_reducible rfl)) | (refine aL_skip ?_ (by simp only [go_sem] <;> with_reducible rfl) ?_; (· simp (disch := first | omega | (simp only [go_sem]; omega)) only [go_sem, seval, reduceCtorEq, hn', eq_self_iff_true, decide_true, not_true_eq_false, decide_false])) | (apply aL_guardN; (· simp (disch := first | omega | (simp only [go_sem]; omega)) only [go_sem, seval, reduceCtorEq, hn', eq_self_iff_true, decide_true, not_true_eq_false, decide_false] <;> with_reducible rfl); all_goals (intro h; first | (exfalso; omega) | (simp only [h, decide_true, decide_false, not_true, not_false_iff]))) | (apply aL_guardP; (· simp (disch := first | omega | (simp only [go_sem]; omega)) only [go_sem, seval, reduceCtorEq, hn', eq_self_iff_true, decide_true, not_true_eq_false, decide_false] <;> with_reducible rfl); all_goals (intro h; first | (exfalso; omega) | (simp only [h, decide_true, decide_false, not_true, not_false_iff]))) | (refine aC_condT ?_ ?_; (· simp (disch := first | omega | (simp only [go_sem]; omega)) only [go_sem, seval, reduceCtorEq, hn', eq_self_iff_true, decide_true, not_true_eq_false, decide_false])) | (refine aC_condF ?_ ?_; (· simp (disch := first | omega | (simp only [go_sem]; omega)) only [go_sem, seval, reduceCtorEq, hn', eq_self_iff_true, decide_true, not_true_eq_false, decide_false])) | (refine aC_condP (by simp (disch := first | omega | (simp only [go_sem]; omega)) only [go_sem, seval, reduceCtorEq, hn', eq_self_iff_true, decide_true, not_true_eq_false, decide_false] <;> with_reducible rfl) ?_ ?_ <;> (intro h; first | (exfalso; omega) | skip)) | fail)
    · refine loop_rule (cxOk.wp _ _) (σ := Nat) (fun k => [(13, .int .i64 k), (12, .int .i64 a.length), (1, .sl 1 n2 (il b) .any), (0, .sl 1 n1 (il a) .any)])
        (fun _ => []) (fun k => a.length - k) (fun k => k ≤ a.length ∧ a.take k = b.take k) 0 (GStep.refl _ _) ⟨⟨Nat.zero_le _, by simp⟩, Sub.of_all (by simp [Fr.get, frame0, hn']), rfl⟩ ?_
      rintro k ⟨hk, hJ⟩
      by_cases hlt : k < a.length
      · have hlb : k < b.length := by omega
        have g1 := getD_il a k .any hlt
        have g2 := getD_il b k .any hlb
        have hq := take_step hlt hlb hJ
        have hq2 := hno k hlt hlb
        clear hno hyes hJ
        by_cases he : a[k] = b[k]
        case' pos => have hq3 := hq he; clear hq2 hq
        case' neg => rw [hq2 he]; clear hq hq2
        all_goals
        generalize a[k] = x at *
        generalize b[k] = y at *
        repeat' (first | refine aC_seq ?_ | refine aC_reg rfl ?_ | refine aC_block ?_ | refine aC_skip ?_ | refine aC_loop ?_ | refine aC_scope ?_ | refine scopeQ_normal ?_ | refine scopeQ_exit ?_ | refine scopeQ_ret ?_ | refine aC_exit ?_ | refine aC_ret ?_ | refine thenQ_normal ?_ | refine blockQ_normal ?_ | refine thenQ_ret ?_ | refine blockQ_ret ?_ | refine thenQ_exit ?_ | refine blockQ_hit ?_ | refine blockQ_miss rfl ?_ | refine aL_nil ?_ | (apply aL_step; (· exact True.intro); (iterate 2 (· simp (disch := first | omega | (simp only [go_sem]; omega)) only [go_sem, seval, reduceCtorEq, g1, g2, he, eq_self_iff_true, decide_true, decide_false, not_true_eq_false, not_false_eq_true] <;> with_reducible rfl)); (· simp only [go_sem] <;> with_reducible rfl)) | (refine aL_skip ?_ (by simp only [go_sem] <;> with_reducible rfl) ?_; (· simp (disch := first | omega | (simp only [go_sem]; omega)) only [go_sem, seval, reduceCtorEq, g1, g2, he, eq_self_iff_true, decide_true, decide_false, not_true_eq_false, not_false_eq_true])) | (apply aL_guardN; (· simp (disch := first | omega | (simp only [go_sem]; omega)) only [go_sem, seval, reduceCtorEq, g1, g2, he, eq_self_iff_true, decide_true, decide_false, not_true_eq_false, not_false_eq_true] <;> with_reducible rfl); all_goals (intro h; first | (exfalso; omega) | (simp only [h, decide_true, decide_false, not_true, not_false_iff]))) | (apply aL_guardP; (· simp (disch := first | omega | (simp only [go_sem]; omega)) only [go_sem, seval, reduceCtorEq, g1, g2, he, eq_self_iff_true, decide_true, decide_false, not_true_eq_false, not_false_eq_true] <;> with_reducible rfl); all_goals (intro h; first | (exfalso; omega) | (simp only [h, decide_true, decide_false, not_true, not_false_iff]))) | (refine aC_condT ?_ ?_; (· simp (disch := first | omega | (simp only [go_sem]; omega)) only [go_sem, seval, reduceCtorEq, g1, g2, he, eq_self_iff_true, decide_true, decide_false, not_true_eq_false, not_false_eq_true])) | (refine aC_condF ?_ ?_; (· simp (disch := first | omega | (simp only [go_sem]; omega)) only [go_sem, seval, reduceCtorEq, g1, g2, he, eq_self_iff_true, decide_true, decide_false, not_true_eq_false, not_false_eq_true])) | (refine aC_condP (by simp (disch := first | omega | (simp only [go_sem]; omega)) only [go_sem, seval, reduceCtorEq, g1, g2, he, eq_self_iff_true, decide_true, decide_false, not_true_eq_false, not_false_eq_true] <;> with_reducible rfl) ?_ ?_ <;> (intro h; first | (exfalso; omega) | skip)) | fail)
        all_goals try (first | exact True.intro | exact not_false | omega | (simp (disch := first | omega | (simp only [go_sem]; omega)) only [go_sem, seval, reduceCtorEq] <;> omega))
        all_goals try (exact ⟨k + 1, ⟨by omega, hq3⟩, Sub.of_all (by simp [Fr.get]), rfl, by omega⟩)
        all_goals try (simp (disch := first | omega | (simp only [go_sem]; omega)) only [go_sem, seval, reduceCtorEq, he])
        all_goals try simp [he]
      · have hk2 : k = a.length := by omega
        subst hk2
        rw [hyes hJ]
        clear hno hyes hJ
        repeat' (first | refine aC_seq ?_ | refine aC_reg rfl ?_ | refine aC_block ?_ | refine aC_skip ?_ | refine aC_loop ?_ | refine aC_scope ?_ | refine scopeQ_normal ?_ | refine scopeQ_exit ?_ | refine scopeQ_ret ?_ | refine aC_exit ?_ | refine aC_ret ?_ | refine thenQ_normal ?_ | refine blockQ_normal ?_ | refine thenQ_ret ?_ | refine blockQ_ret ?_ | refine thenQ_exit ?_ | refine blockQ_hit ?_ | refine blockQ_miss rfl ?_ | refine aL_nil ?_ | (apply aL_step; (· exact True.intro); (iterate 2 (· simp (disch := first | omega | (simp only [go_sem]; omega)) only [go_sem, seval, reduceCtorEq] <;> with_reducible rfl)); (· simp only [go_sem] <;> with_reducible rfl)) | (refine aL_skip ?_ (by simp only [go_sem] <;> with_reducible rfl) ?_; (· simp (disch := first | omega | (simp only [go_sem]; omega)) only [go_sem, seval, reduceCtorEq])) | (apply aL_guardN; (· simp (disch := first | omega | (simp only [go_sem]; omega)) only [go_sem, seval, reduceCtorEq] <;> with_reducible rfl); all_goals (intro h; first | (exfalso; omega) | (simp only [h, decide_true, decide_false, not_true, not_false_iff]))) | (apply aL_guardP; (· simp (disch := first | omega | (simp only [go_sem]; omega)) only [go_sem, seval, reduceCtorEq] <;> with_reducible rfl); all_goals (intro h; first | (exfalso; omega) | (simp only [h, decide_true, decide_false, not_true, not_false_iff]))) | (refine aC_condT ?_ ?_; (· simp (disch := first | omega | (simp only [go_sem]; omega)) only [go_sem, seval, reduceCtorEq])) | (refine aC_condF ?_ ?_; (· simp (disch := first | omega | (simp only [go_sem]; omega)) only [go_sem, seval, reduceCtorEq])) | (refine aC_condP (by simp (disch := first | omega | (simp only [go_sem]; omega)) only [go_sem, seval, reduceCtorEq] <;> with_reducible rfl) ?_ ?_ <;> (intro h; first | (exfalso; omega) | skip)) | fail)
        all_goals try (first | exact True.intro | exact not_false | omega | (simp (disch := first | omega | (simp only [go_sem]; omega)) only [go_sem, seval, reduceCtorEq] <;> omega))
        all_goals try (simp (disch := first | omega | (simp only [go_sem]; omega)) only [go_sem, seval, reduceCtorEq])
        all_goals try simp
    all_goals trivial
theorem equal_gr {α : Type} [DecidableEq α] (enc : α → List AVal) (Ok : α → Prop) (hsz : ∀ x, Ok x → (enc x).length = 128) (hinj : ∀ x y, Ok x → Ok y → enc x = enc y → x = y) (hz : ∀ x, Ok x → skbs (enc x) (bl (List.replicate 128 0)) = true) (n1 n2 : Bool) (a b : List α) (ha : ∀ x ∈ a, Ok x) (hb : ∀ x ∈ b, Ok x) (hl : a.length ≤ 1048576) (hl2 : b.length ≤ 9223372036854775807) :
    APure cx 18 [.sl 128 n1 (els enc a) .any, .sl 128 n2 (els enc b) .any] (.bool (decide (a = b))) := by
  by_cases hn : a.length = b.length
  case neg =>
    rw [decide_eq_false (fun e => hn (by rw [e]))]
    have hn' : ¬ ((a.length : Int) = (b.length : Int)) := by omega
    refine pure_fnK cxOk Tryz.func18 (fun _ => false) (fe18.q) (by kernel_rfl) (by dsimp only [Tryz.f18, go_sem, seval, liteO, Option.map, List.map]; exact .mk _) ?_
    dsimp only [Tryz.f18, frame0, List.zipIdx, List.map, Nat.reduceAdd]
    try simp only [List.getElem?_toArray, List.getElem?_cons_succ, List.getElem?_cons_zero, Option.bind_some]
    repeat' (first | refine aC_seq ?_ | refine aC_reg rfl ?_ | refine aC_block ?_ | refine aC_skip ?_ | refine aC_loop ?_ | refine aC_scope ?_ | refine scopeQ_normal ?_ | refine scopeQ_exit ?_ | refine scopeQ_ret ?_ | refine aC_exit ?_ | refine aC_ret ?_ | refine thenQ_normal ?_ | refine blockQ_normal ?_ | refine thenQ_ret ?_ | refine blockQ_ret ?_ | refine thenQ_exit ?_ | refine blockQ_hit ?_ | refine blockQ_miss rfl ?_ | refine aL_nil ?_ | (apply aL_step; (· exact True.intro); (iterate 2 (· simp (disch := first | omega | (simp only [go_sem]; omega)) only [go_sem, seval, reduceCtorEq, hn', decide_false, not_false_eq_true, decide_true] <;> with_reducible rfl)); (· simp only [go_sem] <;> with_reducible rfl)) | (refine aL_skip ?_ (by simp only [go_sem] <;> with_reducible rfl) ?_; (· simp (disch := first | omega | (simp only [go_sem]; omega)) only [go_sem, seval, reduceCtorEq, hn', decide_false, not_false_eq_true, decide_true])) | (apply aL_guardN; (· simp (disch := first | omega | (simp only [go_sem]; omega)) only [go_sem, seval, reduceCtorEq, hn', decide_false, not_false_eq_true, decide_true] <;> with_reducible rfl); all_goals (intro h; first | (exfalso; omega) | (simp only [h, decide_true, decide_false, not_true, not_false_iff]))) | (apply aL_guardP; (· simp (disch := first | omega | (simp only [go_sem]; omega)) only [go_sem, seval, reduceCtorEq, hn', decide_false, not_false_eq_true, decide_true] <;> with_reducible rfl); all_goals (intro h; first | (exfalso; omega) | (simp only [h, decide_true, decide_false, not_true, not_false_iff]))) | (refine aC_condT ?_ ?_; (· simp (disch := first | omega | (simp only [go_sem]; omega)) only [go_sem, seval, reduceCtorEq, hn', decide_false, not_false_eq_true, decide_true])) | (refine aC_condF ?_ ?_; (· simp (disch := first | omega | (simp only [go_sem]; omega)) only [go_sem, seval, reduceCtorEq, hn', decide_false, not_false_eq_true, decide_true])) | (refine aC_condP (by simp (disch := first | omega | (simp only [go_sem]; omega)) only [go_sem, seval, reduceCtorEq, hn', decide_false, not_false_eq_true, decide_true] <;> with_reducible rfl) ?_ ?_ <;> (intro h; first | (exfalso; omega) | skip)) | fail)
    all_goals try (first | exact True.intro | exact not_false | omega | (simp (disch := first | omega | (simp only [go_sem]; omega)) only [go_sem, seval, reduceCtorEq] <;> omega))
    all_goals try (simp (disch := first | omega | (simp only [go_sem]; omega)) only [go_sem, seval, reduceCtorEq])
    all_goals try simp
  case pos =>
    generalize hr : decide (a = b) = r
    have hyes : a.take a.length = b.take a.length → r = true := fun h => by
      rw [← hr]; refine decide_eq_true ?_
      rw [List.take_length] at h
      rw [hn, List.take_length] at h
      exact h
    have hno : ∀ (k : Nat) (h1 : k < a.length) (h2 : k < b.length), ¬ a[k] = b[k] → r = false := fun k h1 h2 h3 => by rw [← hr]; exact decide_eq_false (ne_at h1 h2 h3)
    clear hr
    have hn' : ((a.length : Int) = (b.length : Int)) := by omega
    refine pure_fnK cxOk Tryz.func18 (fun _ => false) (fe18.q) (by kernel_rfl) (by dsimp only [Tryz.f18, go_sem, seval, liteO, Option.map, List.map]; exact .mk _) ?_
    dsimp only [Tryz.f18, frame0, List.zipIdx, List.map, Nat.reduceAdd]
    try simp only [List.getElem?_toArray, List.getElem?_cons_succ, List.getElem?_cons_zero, Option.bind_some]
    repeat' (first | refine aC_seq ?_ | refine aC_reg rfl ?_ | refine aC_block ?_ | refine aC_skip ?_ | refine aC_loop ?_ | refine aC_scope ?_ | refine scopeQ_normal ?_ | refine scopeQ_exit ?_ | refine scopeQ_ret ?_ | refine aC_exit ?_ | refine aC_ret ?_ | refine thenQ_normal ?_ | refine blockQ_normal ?_ | refine thenQ_ret ?_ | refine blockQ_ret ?_ | refine thenQ_exit ?_ | refine blockQ_hit ?_ | refine blockQ_miss rfl ?_ | refine aL_nil ?_ | (apply aL_step; (· exact True.intro); (iterate 2 (· simp (disch := first | omega | (simp only [go_sem]; omega)) only [go_sem, seval, reduceCtorEq, hn', eq_self_iff_true, decide_true, not_true_eq_false, decide_false] <;> with_reducible rfl)); (· simp only [go_sem] <;> with_reducible rfl)) | (refine aL_skip ?_ (by simp only [go_sem] <;> with_reducible rfl) ?_; (· simp (disch := first | omega | (simp only [go_sem]; omega)) only [go_sem, seval, reduceCtorEq, hn', eq_self_iff_true, decide_true, not_true_eq_false, decide_false])) | (apply aL_guardN; (· simp (disch := first | omega | (simp only [go_sem]; omega)) only [go_sem, seval, reduceCtorEq, hn', eq_self_iff_true, decide_true, not_true_eq_false, decide_false] <;> with_reducible rfl); all_goals (intro h; first | (exfalso; omega) | (simp only [h, decide_true, decide_false, not_true, not_false_iff]))) | (apply aL_guardP; (· simp (disch := first | omega | (simp only [go_sem]; omega)) only [go_sem, seval, reduceCtorEq, hn', eq_self_iff_true, decide_true, not_true_eq_false, decide_false] <;> with_reducible rfl); all_goals (intro h; first | (exfalso; omega) | (simp only [h, decide_true, decide_false, not_true, not_false_iff]))) | (refine aC_condT ?_ ?_; (· simp (disch := first | omega | (simp only [go_sem]; omega)) only [go_sem, seval, reduceCtorEq, hn', eq_self_iff_true, decide_true, not_true_eq_false, decide_false])) | (refine aC_condF ?_ ?_; (· simp (disch := first | omega | (simp only [go_sem]; omega)) only [go_sem, seval, reduceCtorEq, hn', eq_self_iff_true, decide_true, not_true_eq_false, decide_false])) | (refine aC_condP (by simp (disch := first | omega | (simp only [go_sem]; omega)) only [go_sem, seval, reduceCtorEq, hn', eq_self_iff_true, decide_true, not_true_eq_false, decide_false] <;> with_reducible rfl) ?_ ?_ <;> (intro h; first | (exfalso; omega) | skip)) | fail)
    · refine loop_rule (cxOk.wp _ _) (σ := Nat) (fun k => [(13, .int .i64 k), (12, .int .i64 a.length), (1, .sl 128 n2 (els enc b) .any), (0, .sl 128 n1 (els enc a) .any)])
        (fun _ => []) (fun k => a.length - k) (fun k => k ≤ a.length ∧ a.take k = b.take k) 0 (GStep.refl _ _) ⟨⟨Nat.zero_le _, by simp⟩, Sub.of_all (by simp [Fr.get, frame0, hn']), rfl⟩ ?_
      rintro k ⟨hk, hJ⟩
      by_cases hlt : k < a.length
      · have hlb : k < b.length := by omega
        have g1 := getD_els enc a k .any hlt
        have g2 := getD_els enc b k .any hlb
        have l1 := ha _ (List.getElem_mem hlt)
        have l2 := hb _ (List.getElem_mem hlb)
        have t1 : (enc a[k]).take 128 = enc a[k] := List.take_of_length_le (Nat.le_of_eq (hsz _ l1))
        have t2 : (enc b[k]).take 128 = enc b[k] := List.take_of_length_le (Nat.le_of_eq (hsz _ l2))
        have s1 : 128 ≤ (enc a[k]).length := Nat.le_of_eq (hsz _ l1).symm
        have s2 : 128 ≤ (enc b[k]).length := Nat.le_of_eq (hsz _ l2).symm
        have z1 := hz _ l1
        have z2 := hz _ l2
        have y1 := hinj _ _ l1 l2
        have hq := take_step hlt hlb hJ
        have hq2 := hno k hlt hlb
        clear hno hyes hJ
        by_cases he : a[k] = b[k]
        case' pos => have hq3 := hq he; clear hq2 hq; have e1 := congrArg enc he; clear y1
        case' neg => rw [hq2 he]; clear hq hq2; have e1 : ¬ enc a[k] = enc b[k] := fun e => he (y1 e); clear y1
        all_goals
        generalize a[k] = x at *
        generalize b[k] = y at *
        repeat' (first | refine aC_seq ?_ | refine aC_reg rfl ?_ | refine aC_block ?_ | refine aC_skip ?_ | refine aC_loop ?_ | refine aC_scope ?_ | refine scopeQ_normal ?_ | refine scopeQ_exit ?_ | refine scopeQ_ret ?_ | refine aC_exit ?_ | refine aC_ret ?_ | refine thenQ_normal ?_ | refine blockQ_normal ?_ | refine thenQ_ret ?_ | refine blockQ_ret ?_ | refine thenQ_exit ?_ | refine blockQ_hit ?_ | refine blockQ_miss rfl ?_ | refine aL_nil ?_ | (apply aL_step; (· exact True.intro); (iterate 2 (· simp (disch := first | omega | (simp only [go_sem]; omega)) only [go_sem, seval, reduceCtorEq, g1, g2, t1, t2, e1, eq_self_iff_true, decide_true, decide_false, not_true_eq_false, not_false_eq_true] <;> with_reducible rfl)); (· simp only [go_sem] <;> with_reducible rfl)) | (refine aL_skip ?_ (by simp only [go_sem] <;> with_reducible rfl) ?_; (· simp (disch := first | omega | (simp only [go_sem]; omega)) only [go_sem, seval, reduceCtorEq, g1, g2, t1, t2, e1, eq_self_iff_true, decide_true, decide_false, not_true_eq_false, not_false_eq_true])) | (apply aL_guardN; (· simp (disch := first | omega | (simp only [go_sem]; omega)) only [go_sem, seval, reduceCtorEq, g1, g2, t1, t2, e1, eq_self_iff_true, decide_true, decide_false, not_true_eq_false, not_false_eq_true] <;> with_reducible rfl); all_goals (intro h; first | (exfalso; omega) | (simp only [h, decide_true, decide_false, not_true, not_false_iff]))) | (apply aL_guardP; (· simp (disch := first | omega | (simp only [go_sem]; omega)) only [go_sem, seval, reduceCtorEq, g1, g2, t1, t2, e1, eq_self_iff_true, decide_true, decide_false, not_true_eq_false, not_false_eq_true] <;> with_reducible rfl); all_goals (intro h; first | (exfalso; omega) | (simp only [h, decide_true, decide_false, not_true, not_false_iff]))) | (refine aC_condT ?_ ?_; (· simp (disch := first | omega | (simp only [go_sem]; omega)) only [go_sem, seval, reduceCtorEq, g1, g2, t1, t2, e1, eq_self_iff_true, decide_true, decide_false, not_true_eq_false, not_false_eq_true])) | (refine aC_condF ?_ ?_; (· simp (disch := first | omega | (simp only [go_sem]; omega)) only [go_sem, seval, reduceCtorEq, g1, g2, t1, t2, e1, eq_self_iff_true, decide_true, decide_false, not_true_eq_false, not_false_eq_true])) | (refine aC_condP (by simp (disch := first | omega | (simp only [go_sem]; omega)) only [go_sem, seval, reduceCtorEq, g1, g2, t1, t2, e1, eq_self_iff_true, decide_true, decide_false, not_true_eq_false, not_false_eq_true] <;> with_reducible rfl) ?_ ?_ <;> (intro h; first | (exfalso; omega) | skip)) | fail)
        all_goals try (first | exact True.intro | exact not_false | omega | (simp (disch := first | omega | (simp only [go_sem]; omega)) only [go_sem, seval, reduceCtorEq] <;> omega))
        all_goals try (exact ⟨k + 1, ⟨by omega, hq3⟩, Sub.of_all (by simp [Fr.get]), rfl, by omega⟩)
        all_goals try (simp (disch := first | omega | (simp only [go_sem]; omega)) only [go_sem, seval, reduceCtorEq, t1, t2, e1])
        all_goals try simp [t1, t2, e1]
        all_goals try exact s1
        all_goals try exact s2
        all_goals try (exact ⟨by kernel_rfl, by kernel_rfl, z2⟩)
        all_goals try (exact ⟨by kernel_rfl, by kernel_rfl, z1, z2⟩)
        all_goals try (exact ⟨by kernel_rfl, by kernel_rfl, z2, z2⟩)
      · have hk2 : k = a.length := by omega
        subst hk2
        rw [hyes hJ]
        clear hno hyes hJ
        repeat' (first | refine aC_seq ?_ | refine aC_reg rfl ?_ | refine aC_block ?_ | refine aC_skip ?_ | refine aC_loop ?_ | refine aC_scope ?_ | refine scopeQ_normal ?_ | refine scopeQ_exit ?_ | refine scopeQ_ret ?_ | refine aC_exit ?_ | refine aC_ret ?_ | refine thenQ_normal ?_ | refine blockQ_normal ?_ | refine thenQ_ret ?_ | refine blockQ_ret ?_ | refine thenQ_exit ?_ | refine blockQ_hit ?_ | refine blockQ_miss rfl ?_ | refine aL_nil ?_ | (apply aL_step; (· exact True.intro); (iterate 2 (· simp (disch := first | omega | (simp only [go_sem]; omega)) only [go_sem, seval, reduceCtorEq] <;> with_reducible rfl)); (· simp only [go_sem] <;> with_reducible rfl)) | (refine aL_skip ?_ (by simp only [go_sem] <;> with_reducible rfl) ?_; (· simp (disch := first | omega | (simp only [go_sem]; omega)) only [go_sem, seval, reduceCtorEq])) | (apply aL_guardN; (· simp (disch := first | omega | (simp only [go_sem]; omega)) only [go_sem, seval, reduceCtorEq] <;> with_reducible rfl); all_goals (intro h; first | (exfalso; omega) | (simp only [h, decide_true, decide_false, not_true, not_false_iff]))) | (apply aL_guardP; (· simp (disch := first | omega | (simp only [go_sem]; omega)) only [go_sem, seval, reduceCtorEq] <;> with_reducible rfl); all_goals (intro h; first | (exfalso; omega) | (simp only [h, decide_true, decide_false, not_true, not_false_iff]))) | (refine aC_condT ?_ ?_; (· simp (disch := first | omega | (simp only [go_sem]; omega)) only [go_sem, seval, reduceCtorEq])) | (refine aC_condF ?_ ?_; (· simp (disch := first | omega | (simp only [go_sem]; omega)) only [go_sem, seval, reduceCtorEq])) | (refine aC_condP (by simp (disch := first | omega | (simp only [go_sem]; omega)) only [go_sem, seval, reduceCtorEq] <;> with_reducible rfl) ?_ ?_ <;> (intro h; first | (exfalso; omega) | skip)) | fail)
        all_goals try (first | exact True.intro | exact not_false | omega | (simp (disch := first | omega | (simp only [go_sem]; omega)) only [go_sem, seval, reduceCtorEq] <;> omega))
        all_goals try (simp (disch := first | omega | (simp only [go_sem]; omega)) only [go_sem, seval, reduceCtorEq])
        all_goals try simp
    all_goals trivial
end
end Go.Am
