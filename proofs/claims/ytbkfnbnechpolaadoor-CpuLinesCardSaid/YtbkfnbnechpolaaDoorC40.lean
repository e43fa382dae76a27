/- CpuLines: the walk of the law. -/
import Derived.Test.YtbkfnbnechpolaaDoorC43
import Derived.Test.YtbkfnbnechpolaaDoorC37
set_option linter.unusedVariables false
set_option linter.unusedSimpArgs false
namespace Go.Am
open Go Go.Proofs
set_option linter.unusedSimpArgs false
set_option linter.unusedVariables false
set_option maxHeartbeats 8000000
set_option maxRecDepth 100000
attribute [local irreducible] aC aL thenQ blockQ scopeQ ALoop AWp
theorem ws_over {l m : List Int} (hm : m.length = 9) (hl : l.length = 9) : putCells (ws l) 0 (ws m) = ws m := by
  rw [putCells_eq _ _ _ (by rw [ws_length, ws_length]; omega), ws_length, hm, List.drop_eq_nil_of_le (by rw [ws_length]; omega)]
  simp
attribute [-go_sem] putCells_eq
attribute [local go_sem] ws_over ws_length ws_load ws_take ws_put ws_store ws_drop0 ws_head ws_one ws_closed ws_get8 Nat.mul_one
attribute [local simp] ws_closed

/-- An instruction's five numbers. -/
abbrev Ins := Int × Int × Int × Int × Int
def iv (i : Ins) : AVal := .agg [.int .i64 i.1, .int .i64 i.2.1, .int .i64 i.2.2.1, .int .i64 i.2.2.2.1, .int .i64 i.2.2.2.2]
def ivs (l : List Ins) : List AVal := l.map iv
theorem length_ivs (l : List Ins) : (ivs l).length = l.length := List.length_map _
def OkI (i : Ins) : Prop := MayF i.1 i.2.1 i.2.2.1 i.2.2.2.1 i.2.2.2.2 (frm i.1).1 (frm i.1).2
instance (i : Ins) : Decidable (OkI i) := by unfold OkI; infer_instance
def encW (i : Ins) : Nat := (encI i.1 i.2.1 i.2.2.1 i.2.2.2.1 i.2.2.2.2).toNat
def wI (i : Ins) : List Nat := if OkI i then [encW i] else []
def wordsI (l : List Ins) : List Nat := l.flatMap wI

theorem encW_ok {i : Ins} (h : OkI i) : encW i < 18446744073709551616 ∧ ((encW i : Nat) : Int) = encI i.1 i.2.1 i.2.2.1 i.2.2.2.1 i.2.2.2.2 ∧ MayW (encW i) ∧ txtW (encW i) = txt i.1 i.2.1 i.2.2.1 i.2.2.2.1 i.2.2.2.2 := by
  obtain ⟨op, d, a, b, i⟩ := i
  unfold OkI at h
  unfold encW
  simp only at h ⊢
  obtain ⟨h1, h2, h3, h4, h5, h6⟩ := may_range h
  have h0 : 0 ≤ encI op d a b i := by unfold encI; omega
  obtain ⟨w, hw⟩ := Int.eq_ofNat_of_zero_le h0
  have hlt : w < 18446744073709551616 := by
    unfold encI at hw
    omega
  have e1 : ((w % 256 : Nat) : Int) = op := by unfold encI at hw; omega
  have e2 : ((w / 256 % 256 : Nat) : Int) = d := by unfold encI at hw; omega
  have e3 : ((w / 65536 % 256 : Nat) : Int) = a := by unfold encI at hw; omega
  have e4 : ((w / 16777216 % 256 : Nat) : Int) = b := by unfold encI at hw; omega
  have e5 : immW w = i := by
    unfold immW
    unfold encI at hw
    split <;> omega
  rw [hw, Int.toNat_natCast]
  refine ⟨hlt, rfl, ?_, ?_⟩
  · unfold MayW
    rw [e1, e2, e3, e4, e5]
    exact h
  · unfold txtW
    rw [e1, e2, e3, e4, e5]

theorem wordsI_ok : ∀ (l : List Ins), (∀ w ∈ wordsI l, w < 18446744073709551616 ∧ MayW w) ∧ (wordsI l).length ≤ l.length
  | [] => ⟨fun _ h => by simp [wordsI] at h, by simp [wordsI]⟩
  | i :: l => by
    obtain ⟨h1, h2⟩ := wordsI_ok l
    have e : wordsI (i :: l) = wI i ++ wordsI l := by simp [wordsI]
    rw [e]
    unfold wI
    split
    · next h =>
      have hk := encW_ok h
      refine ⟨fun w hw => ?_, by simp; omega⟩
      rcases List.mem_append.1 hw with h' | h'
      · rw [List.mem_singleton.1 h']
        exact ⟨hk.1, hk.2.2.1⟩
      · exact h1 w h'
    · exact ⟨fun w hw => h1 w (by simpa using hw), by simp; omega⟩

theorem wordsI_take (l : List Ins) (k : Nat) (h : k < l.length) : wordsI (l.take (k + 1)) = wordsI (l.take k) ++ wI l[k] := by
  rw [List.take_succ_eq_append_getElem h]
  unfold wordsI
  rw [List.flatMap_append]
  simp

theorem textW_snoc (W : List Nat) (w : Nat) : textW (W ++ [w]) = textW W ++ txtW w ++ [10] := by simp [textW]

theorem cpu_give7 (L : List Int) (x : Int) (hL : L.length = 9) : APure cx 25 [.agg (ws L), .int .i64 7, .int .u64 x] (.tup [.agg (ws (L.set 7 x)), .int .i64 0]) := by
  match L, hL with
  | [a, b, c, d, e, f, g, h, p], _ => exact cpu_give a b c d e f g h p x 7 (by decide) (by decide)

theorem law_lines (L : List Int) (x : Int) (nl : Bool) (l : List Ins) (hL : L.length = 9) (hw : ∀ n ∈ L, Wd n) (hx : Wd x) (hi : ∀ i ∈ l, -9223372036854775808 ≤ i.2.2.2.2 ∧ i.2.2.2.2 ≤ 9223372036854775807)
    (hll : l.length ≤ 9223372036854775807) (hn : nl = true → l = []) :
    APure cx 8 [.sl 5 nl (ivs l) .any, .agg (ws L), .int .u64 x] (.bool true) := by
  have hn0 := law_num 0
  have hn2 := law_num 2
  have hlen := length_ivs l
  by_cases h60 : l.length ≤ 60
  case neg =>
    refine pure_fn cxOk Tryd.func8 (by kernel_rfl) (fun _ => false) (fun _ => none) (by kernel_rfl) (Nat.le_of_ble_eq_true (by kernel_rfl)) ?_
    dsimp only [LB, Tryd.f8, lite, nextOf, Option.isNone, Bool.not_true, Bool.not_false, Bool.and_true, Bool.true_and, Bool.false_and, Bool.and_self, Bool.false_eq_true, if_false, if_true, ↓reduceIte, liteO, List.map, Option.map, frame0, List.zipIdx, Nat.reduceAdd]
    try simp only [List.getElem?_toArray, List.getElem?_cons_succ, List.getElem?_cons_zero, Option.bind_some]
    repeat' (first
      | refine aC_seq ?_
      | refine aC_reg rfl ?_
      | refine aC_block ?_
      | refine aC_skip ?_
      | refine aC_loop ?_
      | refine aC_scope ?_
      | refine scopeQ_normal ?_
      | refine scopeQ_exit ?_
      | refine scopeQ_ret ?_
      | refine aC_exit ?_
      | refine aC_ret ?_
      | refine thenQ_normal ?_
      | refine blockQ_normal ?_
      | refine thenQ_ret ?_
      | refine blockQ_ret ?_
      | refine thenQ_exit ?_
      | refine blockQ_hit ?_
      | refine blockQ_miss rfl ?_
      | refine aL_nil ?_
      | (apply aL_step; (· exact True.intro); (· simp (disch := first | omega | (simp only [go_sem]; omega)) only [go_sem, get_miss, seval, reduceCtorEq, hlen]); (· simp (disch := first | omega | (simp only [go_sem]; omega)) only [go_sem, get_miss, seval, reduceCtorEq, hlen] <;> with_reducible rfl); (· simp only [go_sem] <;> with_reducible rfl))
      | (refine aL_skip ?_ (by simp only [go_sem] <;> with_reducible rfl) ?_; (· simp (disch := first | omega | (simp only [go_sem]; omega)) only [go_sem, get_miss, seval, reduceCtorEq, hlen]))
      | (apply aL_guardN; (· simp (disch := first | omega | (simp only [go_sem]; omega)) only [go_sem, get_miss, seval, reduceCtorEq, hlen] <;> with_reducible rfl); all_goals (intro h; first | (exfalso; omega) | (simp only [h, decide_true, decide_false, not_true, not_false_iff])))
      | (apply aL_guardP; (· simp (disch := first | omega | (simp only [go_sem]; omega)) only [go_sem, get_miss, seval, reduceCtorEq, hlen] <;> with_reducible rfl); all_goals (intro h; first | (exfalso; omega) | (simp only [h, decide_true, decide_false, not_true, not_false_iff])))
      | (refine aC_condT ?_ ?_; (· simp (disch := first | omega | (simp only [go_sem]; omega)) only [go_sem, get_miss, seval, reduceCtorEq, hlen]))
      | (refine aC_condF ?_ ?_; (· simp (disch := first | omega | (simp only [go_sem]; omega)) only [go_sem, get_miss, seval, reduceCtorEq, hlen]))
      | (refine aC_condP (by simp (disch := first | omega | (simp only [go_sem]; omega)) only [go_sem, get_miss, seval, reduceCtorEq, hlen] <;> with_reducible rfl) ?_ ?_ <;> (intro h; first | (exfalso; omega) | skip))
      | (apply aL_pure cxG (cpu_known); (case hg => (simp (disch := first | omega | (simp only [go_sem]; omega)) only [go_sem, get_miss, seval, reduceCtorEq, hlen])); (case hx => (simp (disch := first | omega | (simp only [go_sem]; omega)) only [go_sem, get_miss, seval, reduceCtorEq, hlen] <;> with_reducible rfl)); (case ha => (simp (disch := first | omega | (simp only [go_sem]; omega)) only [go_sem, get_miss, seval, reduceCtorEq, hlen] <;> with_reducible rfl)); (case he => (simp only [go_sem] <;> with_reducible rfl)); (case hcl => (simp)); (case hf => (simp only [go_sem] <;> with_reducible rfl)))
      | fail)
    all_goals try (first | exact True.intro | omega)
    all_goals try (simp (disch := first | omega | (simp only [go_sem]; omega)) only [go_sem, get_miss, seval, reduceCtorEq] <;> first | exact True.intro | omega)
    all_goals try (simp (disch := first | omega | (simp only [go_sem]; omega)) only [go_sem, get_miss, seval, reduceCtorEq])
    all_goals try simp
  case pos =>
  have hgd : ∀ k (h : k < l.length), (ivs l).getD k .any = iv l[k] := fun k h => by simp [ivs, List.getD, h]
  refine pure_fn cxOk Tryd.func8 (by kernel_rfl) (fun _ => false) (fun _ => none) (by kernel_rfl) (Nat.le_of_ble_eq_true (by kernel_rfl)) ?_
  dsimp only [LB, Tryd.f8, lite, nextOf, Option.isNone, Bool.not_true, Bool.not_false, Bool.and_true, Bool.true_and, Bool.false_and, Bool.and_self, Bool.false_eq_true, if_false, if_true, ↓reduceIte, liteO, List.map, Option.map, frame0, List.zipIdx, Nat.reduceAdd]
  try simp only [List.getElem?_toArray, List.getElem?_cons_succ, List.getElem?_cons_zero, Option.bind_some]
  repeat' (first
    | refine aC_seq ?_
    | refine aC_reg rfl ?_
    | refine aC_block ?_
    | refine aC_skip ?_
    | refine aC_loop ?_
    | refine aC_scope ?_
    | refine scopeQ_normal ?_
    | refine scopeQ_exit ?_
    | refine scopeQ_ret ?_
    | refine aC_exit ?_
    | refine aC_ret ?_
    | refine thenQ_normal ?_
    | refine blockQ_normal ?_
    | refine thenQ_ret ?_
    | refine blockQ_ret ?_
    | refine thenQ_exit ?_
    | refine blockQ_hit ?_
    | refine blockQ_miss rfl ?_
    | refine aL_nil ?_
    | (apply aL_step; (· exact True.intro); (· simp (disch := first | omega | (simp only [go_sem]; omega)) only [go_sem, get_miss, seval, reduceCtorEq, hlen]); (· simp (disch := first | omega | (simp only [go_sem]; omega)) only [go_sem, get_miss, seval, reduceCtorEq, hlen] <;> with_reducible rfl); (· simp only [go_sem] <;> with_reducible rfl))
    | (refine aL_skip ?_ (by simp only [go_sem] <;> with_reducible rfl) ?_; (· simp (disch := first | omega | (simp only [go_sem]; omega)) only [go_sem, get_miss, seval, reduceCtorEq, hlen]))
    | (apply aL_guardN; (· simp (disch := first | omega | (simp only [go_sem]; omega)) only [go_sem, get_miss, seval, reduceCtorEq, hlen] <;> with_reducible rfl); all_goals (intro h; first | (exfalso; omega) | (simp only [h, decide_true, decide_false, not_true, not_false_iff])))
    | (apply aL_guardP; (· simp (disch := first | omega | (simp only [go_sem]; omega)) only [go_sem, get_miss, seval, reduceCtorEq, hlen] <;> with_reducible rfl); all_goals (intro h; first | (exfalso; omega) | (simp only [h, decide_true, decide_false, not_true, not_false_iff])))
    | (refine aC_condT ?_ ?_; (· simp (disch := first | omega | (simp only [go_sem]; omega)) only [go_sem, get_miss, seval, reduceCtorEq, hlen]))
    | (refine aC_condF ?_ ?_; (· simp (disch := first | omega | (simp only [go_sem]; omega)) only [go_sem, get_miss, seval, reduceCtorEq, hlen]))
    | (refine aC_condP (by simp (disch := first | omega | (simp only [go_sem]; omega)) only [go_sem, get_miss, seval, reduceCtorEq, hlen] <;> with_reducible rfl) ?_ ?_ <;> (intro h; first | (exfalso; omega) | skip))
    | fail)
  · refine loop_rule (cxOk.wp _ _) (σ := Nat) (fun k => [(9, .int .i64 k), (8, .sl 1 (wordsI (l.take k)).isEmpty (wl (wordsI (l.take k))) (.grow 1)), (7, .str (textW (wordsI (l.take k)))), (4, .ptr 0 0), (2, .int .u64 x), (0, .sl 5 nl (ivs l) .any)])
      (fun k => [.cells (ws L) 38, .grow (wordsI (l.take k)).length 1 22]) (fun k => l.length - k) (fun k => k ≤ l.length) 0 (GStep.nil 8 1 22 rfl) ⟨Nat.zero_le _, Sub.of_all (by simp [Fr.get, nil_wl, wordsI, textW]), by simp [wordsI]⟩ ?_
    intro k hk
    obtain ⟨hok, hwl⟩ := wordsI_ok (l.take k)
    have htl := textW_len _ (fun w h => (hok w h).2)
    have hwl' : (wordsI (l.take k)).length ≤ 60 := by
      rw [List.length_take] at hwl
      omega
    by_cases hlt : k < l.length
    · have hg := hgd k hlt
      have hik := hi _ (List.getElem_mem hlt)
      have hst := wordsI_take l k hlt
      generalize l[k] = i at *
      obtain ⟨op, d, a, b, im⟩ := i
      have ht := cpu_Text op d a b im hik.1 hik.2
      have he := cpu_Encode op d a b im hik.1 hik.2
      simp only [iv] at hg
      by_cases hM : OkI (op, d, a, b, im)
      · have hM' : MayF op d a b im (frm op).1 (frm op).2 := hM
        obtain ⟨k1, k2, k3, k4⟩ := encW_ok hM
        simp only at k2 k4
        rw [if_pos hM', ← k4] at ht
        rw [if_pos hM', ← k2] at he
        have hxl : (txtW (encW (op, d, a, b, im))).length ≤ 80 := txt_len k3
        unfold wI at hst
        rw [if_pos hM] at hst
        have hsn := textW_snoc (wordsI (l.take k)) (encW (op, d, a, b, im))
        rw [← hst] at hsn
        generalize encW (op, d, a, b, im) = w at *
        generalize txtW w = X at *
        generalize hT : textW (wordsI (l.take k)) = T at *
        generalize hW : wordsI (l.take k) = W at *
        clear hgd hok
        repeat' (first
          | refine aC_seq ?_
          | refine aC_reg rfl ?_
          | refine aC_block ?_
          | refine aC_skip ?_
          | refine aC_loop ?_
          | refine aC_scope ?_
          | refine scopeQ_normal ?_
          | refine scopeQ_exit ?_
          | refine scopeQ_ret ?_
          | refine aC_exit ?_
          | refine aC_ret ?_
          | refine thenQ_normal ?_
          | refine blockQ_normal ?_
          | refine thenQ_ret ?_
          | refine blockQ_ret ?_
          | refine thenQ_exit ?_
          | refine blockQ_hit ?_
          | refine blockQ_miss rfl ?_
          | refine aL_nil ?_
          | (apply aL_step; (· exact True.intro); (· simp (disch := first | omega | (simp only [go_sem]; omega)) only [go_sem, get_miss, seval, reduceCtorEq, hlen, hg, List.isEmpty_cons, Bool.and_false, eq_self_iff_true, decide_true, decide_false, Bool.not_true, Bool.not_false, Int.reduceEq, not_false_eq_true, not_true_eq_false]); (· simp (disch := first | omega | (simp only [go_sem]; omega)) only [go_sem, get_miss, seval, reduceCtorEq, hlen, hg, List.isEmpty_cons, Bool.and_false, eq_self_iff_true, decide_true, decide_false, Bool.not_true, Bool.not_false, Int.reduceEq, not_false_eq_true, not_true_eq_false] <;> with_reducible rfl); (· simp only [go_sem] <;> with_reducible rfl))
          | (refine aL_skip ?_ (by simp only [go_sem] <;> with_reducible rfl) ?_; (· simp (disch := first | omega | (simp only [go_sem]; omega)) only [go_sem, get_miss, seval, reduceCtorEq, hlen, hg, List.isEmpty_cons, Bool.and_false, eq_self_iff_true, decide_true, decide_false, Bool.not_true, Bool.not_false, Int.reduceEq, not_false_eq_true, not_true_eq_false]))
          | (apply aL_guardN; (· simp (disch := first | omega | (simp only [go_sem]; omega)) only [go_sem, get_miss, seval, reduceCtorEq, hlen, hg, List.isEmpty_cons, Bool.and_false, eq_self_iff_true, decide_true, decide_false, Bool.not_true, Bool.not_false, Int.reduceEq, not_false_eq_true, not_true_eq_false] <;> with_reducible rfl); all_goals (intro h; first | (exfalso; omega) | (simp only [h, decide_true, decide_false, not_true, not_false_iff])))
          | (apply aL_guardP; (· simp (disch := first | omega | (simp only [go_sem]; omega)) only [go_sem, get_miss, seval, reduceCtorEq, hlen, hg, List.isEmpty_cons, Bool.and_false, eq_self_iff_true, decide_true, decide_false, Bool.not_true, Bool.not_false, Int.reduceEq, not_false_eq_true, not_true_eq_false] <;> with_reducible rfl); all_goals (intro h; first | (exfalso; omega) | (simp only [h, decide_true, decide_false, not_true, not_false_iff])))
          | (refine aC_condT ?_ ?_; (· simp (disch := first | omega | (simp only [go_sem]; omega)) only [go_sem, get_miss, seval, reduceCtorEq, hlen, hg, List.isEmpty_cons, Bool.and_false, eq_self_iff_true, decide_true, decide_false, Bool.not_true, Bool.not_false, Int.reduceEq, not_false_eq_true, not_true_eq_false]))
          | (refine aC_condF ?_ ?_; (· simp (disch := first | omega | (simp only [go_sem]; omega)) only [go_sem, get_miss, seval, reduceCtorEq, hlen, hg, List.isEmpty_cons, Bool.and_false, eq_self_iff_true, decide_true, decide_false, Bool.not_true, Bool.not_false, Int.reduceEq, not_false_eq_true, not_true_eq_false]))
          | (refine aC_condP (by simp (disch := first | omega | (simp only [go_sem]; omega)) only [go_sem, get_miss, seval, reduceCtorEq, hlen, hg, List.isEmpty_cons, Bool.and_false, eq_self_iff_true, decide_true, decide_false, Bool.not_true, Bool.not_false, Int.reduceEq, not_false_eq_true, not_true_eq_false] <;> with_reducible rfl) ?_ ?_ <;> (intro h; first | (exfalso; omega) | skip))
          | (apply aL_pure cxG (ht); (case hg => (simp (disch := first | omega | (simp only [go_sem]; omega)) only [go_sem, get_miss, seval, reduceCtorEq, hlen, hg, List.isEmpty_cons, Bool.and_false, eq_self_iff_true, decide_true, decide_false, Bool.not_true, Bool.not_false, Int.reduceEq, not_false_eq_true, not_true_eq_false])); (case hx => (simp (disch := first | omega | (simp only [go_sem]; omega)) only [go_sem, get_miss, seval, reduceCtorEq, hlen, hg, List.isEmpty_cons, Bool.and_false, eq_self_iff_true, decide_true, decide_false, Bool.not_true, Bool.not_false, Int.reduceEq, not_false_eq_true, not_true_eq_false] <;> with_reducible rfl)); (case ha => (simp (disch := first | omega | (simp only [go_sem]; omega)) only [go_sem, get_miss, seval, reduceCtorEq, hlen, hg, List.isEmpty_cons, Bool.and_false, eq_self_iff_true, decide_true, decide_false, Bool.not_true, Bool.not_false, Int.reduceEq, not_false_eq_true, not_true_eq_false] <;> with_reducible rfl)); (case he => (simp only [go_sem] <;> with_reducible rfl)); (case hcl => (simp)); (case hf => (simp only [go_sem] <;> with_reducible rfl)))
          | (apply aL_pure cxG (he); (case hg => (simp (disch := first | omega | (simp only [go_sem]; omega)) only [go_sem, get_miss, seval, reduceCtorEq, hlen, hg, List.isEmpty_cons, Bool.and_false, eq_self_iff_true, decide_true, decide_false, Bool.not_true, Bool.not_false, Int.reduceEq, not_false_eq_true, not_true_eq_false])); (case hx => (simp (disch := first | omega | (simp only [go_sem]; omega)) only [go_sem, get_miss, seval, reduceCtorEq, hlen, hg, List.isEmpty_cons, Bool.and_false, eq_self_iff_true, decide_true, decide_false, Bool.not_true, Bool.not_false, Int.reduceEq, not_false_eq_true, not_true_eq_false] <;> with_reducible rfl)); (case ha => (simp (disch := first | omega | (simp only [go_sem]; omega)) only [go_sem, get_miss, seval, reduceCtorEq, hlen, hg, List.isEmpty_cons, Bool.and_false, eq_self_iff_true, decide_true, decide_false, Bool.not_true, Bool.not_false, Int.reduceEq, not_false_eq_true, not_true_eq_false] <;> with_reducible rfl)); (case he => (simp only [go_sem] <;> with_reducible rfl)); (case hcl => (simp)); (case hf => (simp only [go_sem] <;> with_reducible rfl)))
          | (apply aL_pure cxG (hn0); (case hg => (simp (disch := first | omega | (simp only [go_sem]; omega)) only [go_sem, get_miss, seval, reduceCtorEq, hlen, hg, List.isEmpty_cons, Bool.and_false, eq_self_iff_true, decide_true, decide_false, Bool.not_true, Bool.not_false, Int.reduceEq, not_false_eq_true, not_true_eq_false])); (case hx => (simp (disch := first | omega | (simp only [go_sem]; omega)) only [go_sem, get_miss, seval, reduceCtorEq, hlen, hg, List.isEmpty_cons, Bool.and_false, eq_self_iff_true, decide_true, decide_false, Bool.not_true, Bool.not_false, Int.reduceEq, not_false_eq_true, not_true_eq_false] <;> with_reducible rfl)); (case ha => (simp (disch := first | omega | (simp only [go_sem]; omega)) only [go_sem, get_miss, seval, reduceCtorEq, hlen, hg, List.isEmpty_cons, Bool.and_false, eq_self_iff_true, decide_true, decide_false, Bool.not_true, Bool.not_false, Int.reduceEq, not_false_eq_true, not_true_eq_false] <;> with_reducible rfl)); (case he => (simp only [go_sem] <;> with_reducible rfl)); (case hcl => (simp)); (case hf => (simp only [go_sem] <;> with_reducible rfl)))
          | fail)
        all_goals try (first | exact True.intro | omega)
        all_goals try (simp (disch := first | omega | (simp only [go_sem]; omega)) only [go_sem, get_miss, seval, reduceCtorEq] <;> first | exact True.intro | omega)
        all_goals
        refine ⟨k + 1, by omega, ?_, ?_, by omega⟩
        · show Sub _ [(9, .int .i64 ((k + 1 : Nat) : Int)), (8, .sl 1 (wordsI (l.take (k + 1))).isEmpty (wl (wordsI (l.take (k + 1)))) (.grow 1)), (7, .str (textW (wordsI (l.take (k + 1))))), (4, .ptr 0 0), (2, .int .u64 x), (0, .sl 5 nl (ivs l) .any)]
          rw [hsn, hst]
          exact Sub.of_all (by simp [Fr.get, wl])
        · show _ = [ABox.cells (ws L) 38, .grow (wordsI (l.take (k + 1))).length 1 22]
          rw [hst]
          simp
      · have hM' : ¬ MayF op d a b im (frm op).1 (frm op).2 := hM
        rw [if_neg hM'] at ht he
        unfold wI at hst
        rw [if_neg hM, List.append_nil] at hst
        clear hgd hok
        repeat' (first
          | refine aC_seq ?_
          | refine aC_reg rfl ?_
          | refine aC_block ?_
          | refine aC_skip ?_
          | refine aC_loop ?_
          | refine aC_scope ?_
          | refine scopeQ_normal ?_
          | refine scopeQ_exit ?_
          | refine scopeQ_ret ?_
          | refine aC_exit ?_
          | refine aC_ret ?_
          | refine thenQ_normal ?_
          | refine blockQ_normal ?_
          | refine thenQ_ret ?_
          | refine blockQ_ret ?_
          | refine thenQ_exit ?_
          | refine blockQ_hit ?_
          | refine blockQ_miss rfl ?_
          | refine aL_nil ?_
          | (apply aL_step; (· exact True.intro); (· simp (disch := first | omega | (simp only [go_sem]; omega)) only [go_sem, get_miss, seval, reduceCtorEq, hlen, hg, eq_self_iff_true, decide_true, decide_false, Bool.not_true, Bool.not_false, Int.reduceEq, not_false_eq_true, not_true_eq_false]); (· simp (disch := first | omega | (simp only [go_sem]; omega)) only [go_sem, get_miss, seval, reduceCtorEq, hlen, hg, eq_self_iff_true, decide_true, decide_false, Bool.not_true, Bool.not_false, Int.reduceEq, not_false_eq_true, not_true_eq_false] <;> with_reducible rfl); (· simp only [go_sem] <;> with_reducible rfl))
          | (refine aL_skip ?_ (by simp only [go_sem] <;> with_reducible rfl) ?_; (· simp (disch := first | omega | (simp only [go_sem]; omega)) only [go_sem, get_miss, seval, reduceCtorEq, hlen, hg, eq_self_iff_true, decide_true, decide_false, Bool.not_true, Bool.not_false, Int.reduceEq, not_false_eq_true, not_true_eq_false]))
          | (apply aL_guardN; (· simp (disch := first | omega | (simp only [go_sem]; omega)) only [go_sem, get_miss, seval, reduceCtorEq, hlen, hg, eq_self_iff_true, decide_true, decide_false, Bool.not_true, Bool.not_false, Int.reduceEq, not_false_eq_true, not_true_eq_false] <;> with_reducible rfl); all_goals (intro h; first | (exfalso; omega) | (simp only [h, decide_true, decide_false, not_true, not_false_iff])))
          | (apply aL_guardP; (· simp (disch := first | omega | (simp only [go_sem]; omega)) only [go_sem, get_miss, seval, reduceCtorEq, hlen, hg, eq_self_iff_true, decide_true, decide_false, Bool.not_true, Bool.not_false, Int.reduceEq, not_false_eq_true, not_true_eq_false] <;> with_reducible rfl); all_goals (intro h; first | (exfalso; omega) | (simp only [h, decide_true, decide_false, not_true, not_false_iff])))
          | (refine aC_condT ?_ ?_; (· simp (disch := first | omega | (simp only [go_sem]; omega)) only [go_sem, get_miss, seval, reduceCtorEq, hlen, hg, eq_self_iff_true, decide_true, decide_false, Bool.not_true, Bool.not_false, Int.reduceEq, not_false_eq_true, not_true_eq_false]))
          | (refine aC_condF ?_ ?_; (· simp (disch := first | omega | (simp only [go_sem]; omega)) only [go_sem, get_miss, seval, reduceCtorEq, hlen, hg, eq_self_iff_true, decide_true, decide_false, Bool.not_true, Bool.not_false, Int.reduceEq, not_false_eq_true, not_true_eq_false]))
          | (refine aC_condP (by simp (disch := first | omega | (simp only [go_sem]; omega)) only [go_sem, get_miss, seval, reduceCtorEq, hlen, hg, eq_self_iff_true, decide_true, decide_false, Bool.not_true, Bool.not_false, Int.reduceEq, not_false_eq_true, not_true_eq_false] <;> with_reducible rfl) ?_ ?_ <;> (intro h; first | (exfalso; omega) | skip))
          | (apply aL_pure cxG (ht); (case hg => (simp (disch := first | omega | (simp only [go_sem]; omega)) only [go_sem, get_miss, seval, reduceCtorEq, hlen, hg, eq_self_iff_true, decide_true, decide_false, Bool.not_true, Bool.not_false, Int.reduceEq, not_false_eq_true, not_true_eq_false])); (case hx => (simp (disch := first | omega | (simp only [go_sem]; omega)) only [go_sem, get_miss, seval, reduceCtorEq, hlen, hg, eq_self_iff_true, decide_true, decide_false, Bool.not_true, Bool.not_false, Int.reduceEq, not_false_eq_true, not_true_eq_false] <;> with_reducible rfl)); (case ha => (simp (disch := first | omega | (simp only [go_sem]; omega)) only [go_sem, get_miss, seval, reduceCtorEq, hlen, hg, eq_self_iff_true, decide_true, decide_false, Bool.not_true, Bool.not_false, Int.reduceEq, not_false_eq_true, not_true_eq_false] <;> with_reducible rfl)); (case he => (simp only [go_sem] <;> with_reducible rfl)); (case hcl => (simp)); (case hf => (simp only [go_sem] <;> with_reducible rfl)))
          | (apply aL_pure cxG (he); (case hg => (simp (disch := first | omega | (simp only [go_sem]; omega)) only [go_sem, get_miss, seval, reduceCtorEq, hlen, hg, eq_self_iff_true, decide_true, decide_false, Bool.not_true, Bool.not_false, Int.reduceEq, not_false_eq_true, not_true_eq_false])); (case hx => (simp (disch := first | omega | (simp only [go_sem]; omega)) only [go_sem, get_miss, seval, reduceCtorEq, hlen, hg, eq_self_iff_true, decide_true, decide_false, Bool.not_true, Bool.not_false, Int.reduceEq, not_false_eq_true, not_true_eq_false] <;> with_reducible rfl)); (case ha => (simp (disch := first | omega | (simp only [go_sem]; omega)) only [go_sem, get_miss, seval, reduceCtorEq, hlen, hg, eq_self_iff_true, decide_true, decide_false, Bool.not_true, Bool.not_false, Int.reduceEq, not_false_eq_true, not_true_eq_false] <;> with_reducible rfl)); (case he => (simp only [go_sem] <;> with_reducible rfl)); (case hcl => (simp)); (case hf => (simp only [go_sem] <;> with_reducible rfl)))
          | (apply aL_pure cxG (hn2); (case hg => (simp (disch := first | omega | (simp only [go_sem]; omega)) only [go_sem, get_miss, seval, reduceCtorEq, hlen, hg, eq_self_iff_true, decide_true, decide_false, Bool.not_true, Bool.not_false, Int.reduceEq, not_false_eq_true, not_true_eq_false])); (case hx => (simp (disch := first | omega | (simp only [go_sem]; omega)) only [go_sem, get_miss, seval, reduceCtorEq, hlen, hg, eq_self_iff_true, decide_true, decide_false, Bool.not_true, Bool.not_false, Int.reduceEq, not_false_eq_true, not_true_eq_false] <;> with_reducible rfl)); (case ha => (simp (disch := first | omega | (simp only [go_sem]; omega)) only [go_sem, get_miss, seval, reduceCtorEq, hlen, hg, eq_self_iff_true, decide_true, decide_false, Bool.not_true, Bool.not_false, Int.reduceEq, not_false_eq_true, not_true_eq_false] <;> with_reducible rfl)); (case he => (simp only [go_sem] <;> with_reducible rfl)); (case hcl => (simp)); (case hf => (simp only [go_sem] <;> with_reducible rfl)))
          | fail)
        all_goals try (first | exact True.intro | omega)
        all_goals try (simp (disch := first | omega | (simp only [go_sem]; omega)) only [go_sem, get_miss, seval, reduceCtorEq] <;> first | exact True.intro | omega)
        all_goals
        refine ⟨k + 1, by omega, ?_, ?_, by omega⟩
        · show Sub _ [(9, .int .i64 ((k + 1 : Nat) : Int)), (8, .sl 1 (wordsI (l.take (k + 1))).isEmpty (wl (wordsI (l.take (k + 1)))) (.grow 1)), (7, .str (textW (wordsI (l.take (k + 1))))), (4, .ptr 0 0), (2, .int .u64 x), (0, .sl 5 nl (ivs l) .any)]
          rw [hst]
          exact Sub.of_all (by simp [Fr.get])
        · show _ = [ABox.cells (ws L) 38, .grow (wordsI (l.take (k + 1))).length 1 22]
          rw [hst]
    · have hk' : k = l.length := by omega
      subst hk'
      rw [List.take_length] at *
      have hW64 : ∀ w ∈ wordsI l, w < 18446744073709551616 := fun w h => (hok w h).1
      have hWm : ∀ w ∈ wordsI l, MayW w := fun w h => (hok w h).2
      have hpr := program_back (wordsI l) hW64 hWm (by omega)
      have hli := cpu_Listing (wordsI l).isEmpty (wordsI l) hW64 (by omega) (fun h => List.isEmpty_iff.1 h)
      rw [if_neg (by omega), if_pos hWm] at hli
      have hsm := law_same (wordsI l).isEmpty (wordsI l).isEmpty (wordsI l) (wordsI l) (by omega) (by omega)
      rw [decide_eq_true rfl] at hsm
      have hgv := cpu_give7 L x hL
      have hL9 : (L.set 7 x).length = 9 := by simp [hL]
      generalize textW (wordsI l) = T at *
      generalize wordsI l = W at *
      clear hok hWm hW64
      repeat' (first
        | refine aC_seq ?_
        | refine aC_reg rfl ?_
        | refine aC_block ?_
        | refine aC_skip ?_
        | refine aC_loop ?_
        | refine aC_scope ?_
        | refine scopeQ_normal ?_
        | refine scopeQ_exit ?_
        | refine scopeQ_ret ?_
        | refine aC_exit ?_
        | refine aC_ret ?_
        | refine thenQ_normal ?_
        | refine blockQ_normal ?_
        | refine thenQ_ret ?_
        | refine blockQ_ret ?_
        | refine thenQ_exit ?_
        | refine blockQ_hit ?_
        | refine blockQ_miss rfl ?_
        | refine aL_nil ?_
        | (apply aL_step; (· exact True.intro); (· simp (disch := first | omega | (simp only [go_sem]; omega)) only [go_sem, get_miss, seval, reduceCtorEq, hlen, eq_self_iff_true, decide_true, decide_false, Bool.not_true, Bool.not_false, Int.reduceEq, not_false_eq_true, not_true_eq_false, bne_self_eq_false, beq_self_eq_true]); (· simp (disch := first | omega | (simp only [go_sem]; omega)) only [go_sem, get_miss, seval, reduceCtorEq, hlen, eq_self_iff_true, decide_true, decide_false, Bool.not_true, Bool.not_false, Int.reduceEq, not_false_eq_true, not_true_eq_false, bne_self_eq_false, beq_self_eq_true] <;> with_reducible rfl); (· simp only [go_sem] <;> with_reducible rfl))
        | (refine aL_skip ?_ (by simp only [go_sem] <;> with_reducible rfl) ?_; (· simp (disch := first | omega | (simp only [go_sem]; omega)) only [go_sem, get_miss, seval, reduceCtorEq, hlen, eq_self_iff_true, decide_true, decide_false, Bool.not_true, Bool.not_false, Int.reduceEq, not_false_eq_true, not_true_eq_false, bne_self_eq_false, beq_self_eq_true]))
        | (apply aL_guardN; (· simp (disch := first | omega | (simp only [go_sem]; omega)) only [go_sem, get_miss, seval, reduceCtorEq, hlen, eq_self_iff_true, decide_true, decide_false, Bool.not_true, Bool.not_false, Int.reduceEq, not_false_eq_true, not_true_eq_false, bne_self_eq_false, beq_self_eq_true] <;> with_reducible rfl); all_goals (intro h; first | (exfalso; omega) | (simp only [h, decide_true, decide_false, not_true, not_false_iff])))
        | (apply aL_guardP; (· simp (disch := first | omega | (simp only [go_sem]; omega)) only [go_sem, get_miss, seval, reduceCtorEq, hlen, eq_self_iff_true, decide_true, decide_false, Bool.not_true, Bool.not_false, Int.reduceEq, not_false_eq_true, not_true_eq_false, bne_self_eq_false, beq_self_eq_true] <;> with_reducible rfl); all_goals (intro h; first | (exfalso; omega) | (simp only [h, decide_true, decide_false, not_true, not_false_iff])))
        | (refine aC_condT ?_ ?_; (· simp (disch := first | omega | (simp only [go_sem]; omega)) only [go_sem, get_miss, seval, reduceCtorEq, hlen, eq_self_iff_true, decide_true, decide_false, Bool.not_true, Bool.not_false, Int.reduceEq, not_false_eq_true, not_true_eq_false, bne_self_eq_false, beq_self_eq_true]))
        | (refine aC_condF ?_ ?_; (· simp (disch := first | omega | (simp only [go_sem]; omega)) only [go_sem, get_miss, seval, reduceCtorEq, hlen, eq_self_iff_true, decide_true, decide_false, Bool.not_true, Bool.not_false, Int.reduceEq, not_false_eq_true, not_true_eq_false, bne_self_eq_false, beq_self_eq_true]))
        | (refine aC_condP (by simp (disch := first | omega | (simp only [go_sem]; omega)) only [go_sem, get_miss, seval, reduceCtorEq, hlen, eq_self_iff_true, decide_true, decide_false, Bool.not_true, Bool.not_false, Int.reduceEq, not_false_eq_true, not_true_eq_false, bne_self_eq_false, beq_self_eq_true] <;> with_reducible rfl) ?_ ?_ <;> (intro h; first | (exfalso; omega) | skip))
        | (apply aL_pure cxG (hpr); (case hg => (simp (disch := first | omega | (simp only [go_sem]; omega)) only [go_sem, get_miss, seval, reduceCtorEq, hlen, eq_self_iff_true, decide_true, decide_false, Bool.not_true, Bool.not_false, Int.reduceEq, not_false_eq_true, not_true_eq_false, bne_self_eq_false, beq_self_eq_true])); (case hx => (simp (disch := first | omega | (simp only [go_sem]; omega)) only [go_sem, get_miss, seval, reduceCtorEq, hlen, eq_self_iff_true, decide_true, decide_false, Bool.not_true, Bool.not_false, Int.reduceEq, not_false_eq_true, not_true_eq_false, bne_self_eq_false, beq_self_eq_true] <;> with_reducible rfl)); (case ha => (simp (disch := first | omega | (simp only [go_sem]; omega)) only [go_sem, get_miss, seval, reduceCtorEq, hlen, eq_self_iff_true, decide_true, decide_false, Bool.not_true, Bool.not_false, Int.reduceEq, not_false_eq_true, not_true_eq_false, bne_self_eq_false, beq_self_eq_true] <;> with_reducible rfl)); (case he => (simp only [go_sem] <;> with_reducible rfl)); (case hcl => (simp)); (case hf => (simp only [go_sem] <;> with_reducible rfl)))
        | (apply aL_pure cxG (hli); (case hg => (simp (disch := first | omega | (simp only [go_sem]; omega)) only [go_sem, get_miss, seval, reduceCtorEq, hlen, eq_self_iff_true, decide_true, decide_false, Bool.not_true, Bool.not_false, Int.reduceEq, not_false_eq_true, not_true_eq_false, bne_self_eq_false, beq_self_eq_true])); (case hx => (simp (disch := first | omega | (simp only [go_sem]; omega)) only [go_sem, get_miss, seval, reduceCtorEq, hlen, eq_self_iff_true, decide_true, decide_false, Bool.not_true, Bool.not_false, Int.reduceEq, not_false_eq_true, not_true_eq_false, bne_self_eq_false, beq_self_eq_true] <;> with_reducible rfl)); (case ha => (simp (disch := first | omega | (simp only [go_sem]; omega)) only [go_sem, get_miss, seval, reduceCtorEq, hlen, eq_self_iff_true, decide_true, decide_false, Bool.not_true, Bool.not_false, Int.reduceEq, not_false_eq_true, not_true_eq_false, bne_self_eq_false, beq_self_eq_true] <;> with_reducible rfl)); (case he => (simp only [go_sem] <;> with_reducible rfl)); (case hcl => (simp)); (case hf => (simp only [go_sem] <;> with_reducible rfl)))
        | (apply aL_pure cxG (hsm); (case hg => (simp (disch := first | omega | (simp only [go_sem]; omega)) only [go_sem, get_miss, seval, reduceCtorEq, hlen, eq_self_iff_true, decide_true, decide_false, Bool.not_true, Bool.not_false, Int.reduceEq, not_false_eq_true, not_true_eq_false, bne_self_eq_false, beq_self_eq_true])); (case hx => (simp (disch := first | omega | (simp only [go_sem]; omega)) only [go_sem, get_miss, seval, reduceCtorEq, hlen, eq_self_iff_true, decide_true, decide_false, Bool.not_true, Bool.not_false, Int.reduceEq, not_false_eq_true, not_true_eq_false, bne_self_eq_false, beq_self_eq_true] <;> with_reducible rfl)); (case ha => (simp (disch := first | omega | (simp only [go_sem]; omega)) only [go_sem, get_miss, seval, reduceCtorEq, hlen, eq_self_iff_true, decide_true, decide_false, Bool.not_true, Bool.not_false, Int.reduceEq, not_false_eq_true, not_true_eq_false, bne_self_eq_false, beq_self_eq_true] <;> with_reducible rfl)); (case he => (simp only [go_sem] <;> with_reducible rfl)); (case hcl => (simp)); (case hf => (simp only [go_sem] <;> with_reducible rfl)))
        | (apply aL_pure cxG (hgv); (case hg => (simp (disch := first | omega | (simp only [go_sem]; omega)) only [go_sem, get_miss, seval, reduceCtorEq, hlen, eq_self_iff_true, decide_true, decide_false, Bool.not_true, Bool.not_false, Int.reduceEq, not_false_eq_true, not_true_eq_false, bne_self_eq_false, beq_self_eq_true])); (case hx => (simp (disch := first | omega | (simp only [go_sem]; omega)) only [go_sem, get_miss, seval, reduceCtorEq, hlen, eq_self_iff_true, decide_true, decide_false, Bool.not_true, Bool.not_false, Int.reduceEq, not_false_eq_true, not_true_eq_false, bne_self_eq_false, beq_self_eq_true] <;> with_reducible rfl)); (case ha => (simp (disch := first | omega | (simp only [go_sem]; omega)) only [go_sem, get_miss, seval, reduceCtorEq, hlen, eq_self_iff_true, decide_true, decide_false, Bool.not_true, Bool.not_false, Int.reduceEq, not_false_eq_true, not_true_eq_false, bne_self_eq_false, beq_self_eq_true] <;> with_reducible rfl)); (case he => (simp only [go_sem] <;> with_reducible rfl)); (case hcl => (simp)); (case hf => (simp only [go_sem] <;> with_reducible rfl)))
        | (apply aL_pure cxG (hn0); (case hg => (simp (disch := first | omega | (simp only [go_sem]; omega)) only [go_sem, get_miss, seval, reduceCtorEq, hlen, eq_self_iff_true, decide_true, decide_false, Bool.not_true, Bool.not_false, Int.reduceEq, not_false_eq_true, not_true_eq_false, bne_self_eq_false, beq_self_eq_true])); (case hx => (simp (disch := first | omega | (simp only [go_sem]; omega)) only [go_sem, get_miss, seval, reduceCtorEq, hlen, eq_self_iff_true, decide_true, decide_false, Bool.not_true, Bool.not_false, Int.reduceEq, not_false_eq_true, not_true_eq_false, bne_self_eq_false, beq_self_eq_true] <;> with_reducible rfl)); (case ha => (simp (disch := first | omega | (simp only [go_sem]; omega)) only [go_sem, get_miss, seval, reduceCtorEq, hlen, eq_self_iff_true, decide_true, decide_false, Bool.not_true, Bool.not_false, Int.reduceEq, not_false_eq_true, not_true_eq_false, bne_self_eq_false, beq_self_eq_true] <;> with_reducible rfl)); (case he => (simp only [go_sem] <;> with_reducible rfl)); (case hcl => (simp)); (case hf => (simp only [go_sem] <;> with_reducible rfl)))
        | fail)
      · refine loop_rule (cxOk.wp _ _) (σ := Nat × List Int) (fun s => [(20, .int .i64 s.1), (19, .int .i64 0), (4, .ptr 0 0), (2, .int .u64 x), (0, .sl 5 nl (ivs l) .any)]) (fun s => [.cells (ws s.2) 38, .grow W.length 1 22])
          (fun s => l.length - s.1) (fun s => s.1 ≤ l.length ∧ s.2.length = 9 ∧ s.2.getD 7 0 = x ∧ ∀ n ∈ s.2, Wd n) (0, L.set 7 x) (GStep.refl _ _)
          ⟨⟨Nat.zero_le _, by simp [hL], by simp [List.getD, hL], wd_set hw hx 7⟩, Sub.of_all (by simp [Fr.get]), rfl⟩ ?_
        rintro ⟨k, M⟩ ⟨hk, hM9, hM7, hMw⟩
        simp only at hk hM9 hM7 hMw ⊢
        clear hpr hli hsm hgv
        by_cases hlt : k < l.length
        · have hg := hgd k hlt
          have hik := hi _ (List.getElem_mem hlt)
          generalize l[k] = i at *
          obtain ⟨op, d, a, b, im⟩ := i
          simp only [iv] at hg
          by_cases hd7 : d = 7
          · subst hd7
            clear hgd
            repeat' (first
              | refine aC_seq ?_
              | refine aC_reg rfl ?_
              | refine aC_block ?_
              | refine aC_skip ?_
              | refine aC_loop ?_
              | refine aC_scope ?_
              | refine scopeQ_normal ?_
              | refine scopeQ_exit ?_
              | refine scopeQ_ret ?_
              | refine aC_exit ?_
              | refine aC_ret ?_
              | refine thenQ_normal ?_
              | refine blockQ_normal ?_
              | refine thenQ_ret ?_
              | refine blockQ_ret ?_
              | refine thenQ_exit ?_
              | refine blockQ_hit ?_
              | refine blockQ_miss rfl ?_
              | refine aL_nil ?_
              | (apply aL_step; (· exact True.intro); (· simp (disch := first | omega | (simp only [go_sem]; omega)) only [go_sem, get_miss, seval, reduceCtorEq, hlen, hg, eq_self_iff_true, decide_true, decide_false, Bool.not_true, Bool.not_false, Int.reduceEq, not_false_eq_true, not_true_eq_false]); (· simp (disch := first | omega | (simp only [go_sem]; omega)) only [go_sem, get_miss, seval, reduceCtorEq, hlen, hg, eq_self_iff_true, decide_true, decide_false, Bool.not_true, Bool.not_false, Int.reduceEq, not_false_eq_true, not_true_eq_false] <;> with_reducible rfl); (· simp only [go_sem] <;> with_reducible rfl))
              | (refine aL_skip ?_ (by simp only [go_sem] <;> with_reducible rfl) ?_; (· simp (disch := first | omega | (simp only [go_sem]; omega)) only [go_sem, get_miss, seval, reduceCtorEq, hlen, hg, eq_self_iff_true, decide_true, decide_false, Bool.not_true, Bool.not_false, Int.reduceEq, not_false_eq_true, not_true_eq_false]))
              | (apply aL_guardN; (· simp (disch := first | omega | (simp only [go_sem]; omega)) only [go_sem, get_miss, seval, reduceCtorEq, hlen, hg, eq_self_iff_true, decide_true, decide_false, Bool.not_true, Bool.not_false, Int.reduceEq, not_false_eq_true, not_true_eq_false] <;> with_reducible rfl); all_goals (intro h; first | (exfalso; omega) | (simp only [h, decide_true, decide_false, not_true, not_false_iff])))
              | (apply aL_guardP; (· simp (disch := first | omega | (simp only [go_sem]; omega)) only [go_sem, get_miss, seval, reduceCtorEq, hlen, hg, eq_self_iff_true, decide_true, decide_false, Bool.not_true, Bool.not_false, Int.reduceEq, not_false_eq_true, not_true_eq_false] <;> with_reducible rfl); all_goals (intro h; first | (exfalso; omega) | (simp only [h, decide_true, decide_false, not_true, not_false_iff])))
              | (refine aC_condT ?_ ?_; (· simp (disch := first | omega | (simp only [go_sem]; omega)) only [go_sem, get_miss, seval, reduceCtorEq, hlen, hg, eq_self_iff_true, decide_true, decide_false, Bool.not_true, Bool.not_false, Int.reduceEq, not_false_eq_true, not_true_eq_false]))
              | (refine aC_condF ?_ ?_; (· simp (disch := first | omega | (simp only [go_sem]; omega)) only [go_sem, get_miss, seval, reduceCtorEq, hlen, hg, eq_self_iff_true, decide_true, decide_false, Bool.not_true, Bool.not_false, Int.reduceEq, not_false_eq_true, not_true_eq_false]))
              | (refine aC_condP (by simp (disch := first | omega | (simp only [go_sem]; omega)) only [go_sem, get_miss, seval, reduceCtorEq, hlen, hg, eq_self_iff_true, decide_true, decide_false, Bool.not_true, Bool.not_false, Int.reduceEq, not_false_eq_true, not_true_eq_false] <;> with_reducible rfl) ?_ ?_ <;> (intro h; first | (exfalso; omega) | skip))
              | fail)
            all_goals try (first | exact True.intro | omega)
            all_goals try (simp (disch := first | omega | (simp only [go_sem]; omega)) only [go_sem, get_miss, seval, reduceCtorEq] <;> first | exact True.intro | omega)
            all_goals first | trivial | exact ⟨(k + 1, M), ⟨by simp; omega, hM9, hM7, hMw⟩, Sub.of_all (by simp [Fr.get]), rfl, by simp; omega⟩ | omega
          · obtain ⟨M', q1, q2, ⟨g1, g2, g3⟩, hdo⟩ := do_one M op d a b im (IntKind.u64.wrap (x + 1)) hM9 hMw (wd_wrap _) hik.1 hik.2
            have g7 : M'.getD 7 0 = x := by rw [g2 7 (by decide) (by omega)]; exact hM7
            clear hgd g2
            repeat' (first
              | refine aC_seq ?_
              | refine aC_reg rfl ?_
              | refine aC_block ?_
              | refine aC_skip ?_
              | refine aC_loop ?_
              | refine aC_scope ?_
              | refine scopeQ_normal ?_
              | refine scopeQ_exit ?_
              | refine scopeQ_ret ?_
              | refine aC_exit ?_
              | refine aC_ret ?_
              | refine thenQ_normal ?_
              | refine blockQ_normal ?_
              | refine thenQ_ret ?_
              | refine blockQ_ret ?_
              | refine thenQ_exit ?_
              | refine blockQ_hit ?_
              | refine blockQ_miss rfl ?_
              | refine aL_nil ?_
              | (apply aL_step; (· exact True.intro); (· simp (disch := first | omega | (simp only [go_sem]; omega)) only [go_sem, get_miss, seval, reduceCtorEq, hlen, hg, eq_self_iff_true, decide_true, decide_false, Bool.not_true, Bool.not_false, Int.reduceEq, not_false_eq_true, not_true_eq_false]); (· simp (disch := first | omega | (simp only [go_sem]; omega)) only [go_sem, get_miss, seval, reduceCtorEq, hlen, hg, eq_self_iff_true, decide_true, decide_false, Bool.not_true, Bool.not_false, Int.reduceEq, not_false_eq_true, not_true_eq_false] <;> with_reducible rfl); (· simp only [go_sem] <;> with_reducible rfl))
              | (refine aL_skip ?_ (by simp only [go_sem] <;> with_reducible rfl) ?_; (· simp (disch := first | omega | (simp only [go_sem]; omega)) only [go_sem, get_miss, seval, reduceCtorEq, hlen, hg, eq_self_iff_true, decide_true, decide_false, Bool.not_true, Bool.not_false, Int.reduceEq, not_false_eq_true, not_true_eq_false]))
              | (apply aL_guardN; (· simp (disch := first | omega | (simp only [go_sem]; omega)) only [go_sem, get_miss, seval, reduceCtorEq, hlen, hg, eq_self_iff_true, decide_true, decide_false, Bool.not_true, Bool.not_false, Int.reduceEq, not_false_eq_true, not_true_eq_false] <;> with_reducible rfl); all_goals (intro h; first | (exfalso; omega) | (simp only [h, decide_true, decide_false, not_true, not_false_iff])))
              | (apply aL_guardP; (· simp (disch := first | omega | (simp only [go_sem]; omega)) only [go_sem, get_miss, seval, reduceCtorEq, hlen, hg, eq_self_iff_true, decide_true, decide_false, Bool.not_true, Bool.not_false, Int.reduceEq, not_false_eq_true, not_true_eq_false] <;> with_reducible rfl); all_goals (intro h; first | (exfalso; omega) | (simp only [h, decide_true, decide_false, not_true, not_false_iff])))
              | (refine aC_condT ?_ ?_; (· simp (disch := first | omega | (simp only [go_sem]; omega)) only [go_sem, get_miss, seval, reduceCtorEq, hlen, hg, eq_self_iff_true, decide_true, decide_false, Bool.not_true, Bool.not_false, Int.reduceEq, not_false_eq_true, not_true_eq_false]))
              | (refine aC_condF ?_ ?_; (· simp (disch := first | omega | (simp only [go_sem]; omega)) only [go_sem, get_miss, seval, reduceCtorEq, hlen, hg, eq_self_iff_true, decide_true, decide_false, Bool.not_true, Bool.not_false, Int.reduceEq, not_false_eq_true, not_true_eq_false]))
              | (refine aC_condP (by simp (disch := first | omega | (simp only [go_sem]; omega)) only [go_sem, get_miss, seval, reduceCtorEq, hlen, hg, eq_self_iff_true, decide_true, decide_false, Bool.not_true, Bool.not_false, Int.reduceEq, not_false_eq_true, not_true_eq_false] <;> with_reducible rfl) ?_ ?_ <;> (intro h; first | (exfalso; omega) | skip))
              | (apply aL_pure cxG (hdo); (case hg => (simp (disch := first | omega | (simp only [go_sem]; omega)) only [go_sem, get_miss, seval, reduceCtorEq, hlen, hg, eq_self_iff_true, decide_true, decide_false, Bool.not_true, Bool.not_false, Int.reduceEq, not_false_eq_true, not_true_eq_false])); (case hx => (simp (disch := first | omega | (simp only [go_sem]; omega)) only [go_sem, get_miss, seval, reduceCtorEq, hlen, hg, eq_self_iff_true, decide_true, decide_false, Bool.not_true, Bool.not_false, Int.reduceEq, not_false_eq_true, not_true_eq_false] <;> with_reducible rfl)); (case ha => (simp (disch := first | omega | (simp only [go_sem]; omega)) only [go_sem, get_miss, seval, reduceCtorEq, hlen, hg, eq_self_iff_true, decide_true, decide_false, Bool.not_true, Bool.not_false, Int.reduceEq, not_false_eq_true, not_true_eq_false] <;> with_reducible rfl)); (case he => (simp only [go_sem] <;> with_reducible rfl)); (case hcl => (simp)); (case hf => (simp only [go_sem] <;> with_reducible rfl)))
              | fail)
            all_goals try (first | exact True.intro | omega)
            all_goals try (simp (disch := first | omega | (simp only [go_sem]; omega)) only [go_sem, get_miss, seval, reduceCtorEq] <;> first | exact True.intro | omega)
            all_goals first | trivial | exact ⟨(k + 1, M'), ⟨by simp; omega, g1, g7, g3⟩, Sub.of_all (by simp [Fr.get]), by simp, by simp; omega⟩ | omega
        · have hk' : k = l.length := by omega
          subst hk'
          clear hgd
          repeat' (first
            | refine aC_seq ?_
            | refine aC_reg rfl ?_
            | refine aC_block ?_
            | refine aC_skip ?_
            | refine aC_loop ?_
            | refine aC_scope ?_
            | refine scopeQ_normal ?_
            | refine scopeQ_exit ?_
            | refine scopeQ_ret ?_
            | refine aC_exit ?_
            | refine aC_ret ?_
            | refine thenQ_normal ?_
            | refine blockQ_normal ?_
            | refine thenQ_ret ?_
            | refine blockQ_ret ?_
            | refine thenQ_exit ?_
            | refine blockQ_hit ?_
            | refine blockQ_miss rfl ?_
            | refine aL_nil ?_
            | (apply aL_step; (· exact True.intro); (· simp (disch := first | omega | (simp only [go_sem]; omega)) only [go_sem, get_miss, seval, reduceCtorEq, hlen, hM7, beq_self_eq_true, eq_self_iff_true, decide_true, decide_false, Bool.not_true, Bool.not_false, Int.reduceEq, not_false_eq_true, not_true_eq_false]); (· simp (disch := first | omega | (simp only [go_sem]; omega)) only [go_sem, get_miss, seval, reduceCtorEq, hlen, hM7, beq_self_eq_true, eq_self_iff_true, decide_true, decide_false, Bool.not_true, Bool.not_false, Int.reduceEq, not_false_eq_true, not_true_eq_false] <;> with_reducible rfl); (· simp only [go_sem] <;> with_reducible rfl))
            | (refine aL_skip ?_ (by simp only [go_sem] <;> with_reducible rfl) ?_; (· simp (disch := first | omega | (simp only [go_sem]; omega)) only [go_sem, get_miss, seval, reduceCtorEq, hlen, hM7, beq_self_eq_true, eq_self_iff_true, decide_true, decide_false, Bool.not_true, Bool.not_false, Int.reduceEq, not_false_eq_true, not_true_eq_false]))
            | (apply aL_guardN; (· simp (disch := first | omega | (simp only [go_sem]; omega)) only [go_sem, get_miss, seval, reduceCtorEq, hlen, hM7, beq_self_eq_true, eq_self_iff_true, decide_true, decide_false, Bool.not_true, Bool.not_false, Int.reduceEq, not_false_eq_true, not_true_eq_false] <;> with_reducible rfl); all_goals (intro h; first | (exfalso; omega) | (simp only [h, decide_true, decide_false, not_true, not_false_iff])))
            | (apply aL_guardP; (· simp (disch := first | omega | (simp only [go_sem]; omega)) only [go_sem, get_miss, seval, reduceCtorEq, hlen, hM7, beq_self_eq_true, eq_self_iff_true, decide_true, decide_false, Bool.not_true, Bool.not_false, Int.reduceEq, not_false_eq_true, not_true_eq_false] <;> with_reducible rfl); all_goals (intro h; first | (exfalso; omega) | (simp only [h, decide_true, decide_false, not_true, not_false_iff])))
            | (refine aC_condT ?_ ?_; (· simp (disch := first | omega | (simp only [go_sem]; omega)) only [go_sem, get_miss, seval, reduceCtorEq, hlen, hM7, beq_self_eq_true, eq_self_iff_true, decide_true, decide_false, Bool.not_true, Bool.not_false, Int.reduceEq, not_false_eq_true, not_true_eq_false]))
            | (refine aC_condF ?_ ?_; (· simp (disch := first | omega | (simp only [go_sem]; omega)) only [go_sem, get_miss, seval, reduceCtorEq, hlen, hM7, beq_self_eq_true, eq_self_iff_true, decide_true, decide_false, Bool.not_true, Bool.not_false, Int.reduceEq, not_false_eq_true, not_true_eq_false]))
            | (refine aC_condP (by simp (disch := first | omega | (simp only [go_sem]; omega)) only [go_sem, get_miss, seval, reduceCtorEq, hlen, hM7, beq_self_eq_true, eq_self_iff_true, decide_true, decide_false, Bool.not_true, Bool.not_false, Int.reduceEq, not_false_eq_true, not_true_eq_false] <;> with_reducible rfl) ?_ ?_ <;> (intro h; first | (exfalso; omega) | skip))
            | (apply aL_pure cxG (hn0); (case hg => (simp (disch := first | omega | (simp only [go_sem]; omega)) only [go_sem, get_miss, seval, reduceCtorEq, hlen, hM7, beq_self_eq_true, eq_self_iff_true, decide_true, decide_false, Bool.not_true, Bool.not_false, Int.reduceEq, not_false_eq_true, not_true_eq_false])); (case hx => (simp (disch := first | omega | (simp only [go_sem]; omega)) only [go_sem, get_miss, seval, reduceCtorEq, hlen, hM7, beq_self_eq_true, eq_self_iff_true, decide_true, decide_false, Bool.not_true, Bool.not_false, Int.reduceEq, not_false_eq_true, not_true_eq_false] <;> with_reducible rfl)); (case ha => (simp (disch := first | omega | (simp only [go_sem]; omega)) only [go_sem, get_miss, seval, reduceCtorEq, hlen, hM7, beq_self_eq_true, eq_self_iff_true, decide_true, decide_false, Bool.not_true, Bool.not_false, Int.reduceEq, not_false_eq_true, not_true_eq_false] <;> with_reducible rfl)); (case he => (simp only [go_sem] <;> with_reducible rfl)); (case hcl => (simp)); (case hf => (simp only [go_sem] <;> with_reducible rfl)))
            | (apply aL_pure cxG (cpu_known); (case hg => (simp (disch := first | omega | (simp only [go_sem]; omega)) only [go_sem, get_miss, seval, reduceCtorEq, hlen, hM7, beq_self_eq_true, eq_self_iff_true, decide_true, decide_false, Bool.not_true, Bool.not_false, Int.reduceEq, not_false_eq_true, not_true_eq_false])); (case hx => (simp (disch := first | omega | (simp only [go_sem]; omega)) only [go_sem, get_miss, seval, reduceCtorEq, hlen, hM7, beq_self_eq_true, eq_self_iff_true, decide_true, decide_false, Bool.not_true, Bool.not_false, Int.reduceEq, not_false_eq_true, not_true_eq_false] <;> with_reducible rfl)); (case ha => (simp (disch := first | omega | (simp only [go_sem]; omega)) only [go_sem, get_miss, seval, reduceCtorEq, hlen, hM7, beq_self_eq_true, eq_self_iff_true, decide_true, decide_false, Bool.not_true, Bool.not_false, Int.reduceEq, not_false_eq_true, not_true_eq_false] <;> with_reducible rfl)); (case he => (simp only [go_sem] <;> with_reducible rfl)); (case hcl => (simp)); (case hf => (simp only [go_sem] <;> with_reducible rfl)))
            | fail)
          all_goals try (first | exact True.intro | omega)
          all_goals try (simp (disch := first | omega | (simp only [go_sem]; omega)) only [go_sem, get_miss, seval, reduceCtorEq] <;> first | exact True.intro | omega)
          all_goals try (simp (disch := first | omega | (simp only [go_sem]; omega)) only [go_sem, get_miss, seval, reduceCtorEq])
          all_goals try simp
      all_goals first | trivial | omega | exact ⟨by omega, by omega⟩
  all_goals first | trivial | omega
end Go.Am
