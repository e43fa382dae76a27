/- CpuBack: the walk of the law. -/
import Derived.Test.YtbkfnbnechpolaaDoorC33
import Derived.Test.YtbkfnbnechpolaaDoorC36
import Derived.Test.YtbkfnbnechpolaaDoorC01
set_option linter.unusedVariables false
set_option linter.unusedSimpArgs false
namespace Go.Am
open Go Go.Proofs
set_option linter.unusedSimpArgs false
set_option linter.unusedVariables false
set_option maxHeartbeats 8000000
set_option maxRecDepth 100000
attribute [local irreducible] aC aL thenQ blockQ scopeQ ALoop AWp
attribute [-go_sem] putCells_eq
attribute [local go_sem] ws_store9 ws_length ws_load ws_take ws_put ws_store ws_drop0 ws_head ws_one ws_closed ws_get8 Nat.mul_one
attribute [local simp] ws_closed

/-- A word that an instruction is encoded as is read as it. -/
theorem decode_enc {op d a b i : Int} (h : MayF op d a b i (frm op).1 (frm op).2) :
    APure cx 10 [.int .u64 (encI op d a b i)] (.tup [.agg [.int .i64 op, .int .i64 d, .int .i64 a, .int .i64 b, .int .i64 i], .int .i64 0]) := by
  obtain ⟨h1, h2, h3, h4, h5, h6⟩ := may_range h
  have h0 : 0 ≤ encI op d a b i := by unfold encI; omega
  obtain ⟨w, hw⟩ := Int.eq_ofNat_of_zero_le h0
  have hlt : w < 18446744073709551616 := by
    unfold encI at hw
    omega
  have e1 : ((w % 256 : Nat) : Int) = op := by unfold encI at hw; omega
  have e2 : ((w / 256 % 256 : Nat) : Int) = d := by unfold encI at hw; omega
  have e3 : ((w / 65536 % 256 : Nat) : Int) = a := by unfold encI at hw; omega
  have e4 : ((w / 16777216 % 256 : Nat) : Int) = b := by unfold encI at hw; omega
  have e5 : immW w = i := by
    unfold immW
    unfold encI at hw
    split <;> omega
  have hd := cpu_Decode w hlt
  have hM : MayW w := by
    unfold MayW
    rw [e1, e2, e3, e4, e5]
    exact h
  rw [if_pos hM, e1, e2, e3, e4, e5] at hd
  rw [hw]
  exact hd

theorem untext_txt {op d a b i : Int} (h : MayF op d a b i (frm op).1 (frm op).2) :
    APure cx 13 [.str (txt op d a b i)] (.tup [.agg [.int .i64 op, .int .i64 d, .int .i64 a, .int .i64 b, .int .i64 i], .int .i64 0]) :=
  cpu_Untext _ (Nat.le_trans (txt_len h) (by decide)) _ (.inl ⟨op, d, a, b, i, ⟨h, rfl⟩, rfl⟩)

/-- A list's text, and what it is read as. -/
theorem list_back (nl : Bool) (l : List Nat) (hw : ∀ w ∈ l, w < 18446744073709551616) (hl : l.length ≤ 600) (hn : nl = true → l = []) :
    ∃ (t : List UInt8) (e : Int), APure cx 26 [.sl 1 nl (wl l) .any] (.tup [.str t, .int .i64 e]) ∧
      ((e = 3 ∨ e = 4) ∨ (e = 0 ∧ APure cx 27 [.str t] (.tup [.sl 1 l.isEmpty (wl l) .any, .int .i64 0, .int .i64 0]))) := by
  have h := cpu_Listing nl l hw (by omega) hn
  by_cases h5 : 512 < l.length
  · rw [if_pos h5] at h
    exact ⟨_, _, h, .inl (.inl rfl)⟩
  · rw [if_neg h5] at h
    by_cases hm : ∀ w ∈ l, MayW w
    · rw [if_pos hm] at h
      exact ⟨_, _, h, .inr ⟨rfl, program_back l hw hm (by omega)⟩⟩
    · rw [if_neg hm] at h
      exact ⟨_, _, h, .inl (.inr rfl)⟩

theorem law_back (L : List Int) (op d a b imm ld : Int) (nl : Bool) (l : List Nat) (hL : L.length = 9) (hw : ∀ n ∈ L, Wd n) (hld : Wd ld) (h0 : -9223372036854775808 ≤ imm) (h1 : imm ≤ 9223372036854775807)
    (hlw : ∀ w ∈ l, w < 18446744073709551616) (hll : l.length ≤ 9223372036854775807) (hn : nl = true → l = []) :
    APure cx 7 [.agg [.int .i64 op, .int .i64 d, .int .i64 a, .int .i64 b, .int .i64 imm], .agg (ws L), .int .u64 ld, .sl 1 nl (wl l) .any] (.bool true) := by
  obtain ⟨L', k1, k2, ⟨hL', hkeep, _⟩, hdo⟩ := do_one L op d a b imm ld hL hw hld h0 h1
  have hn0 := law_num 0
  have hn2 := law_num 2
  have hn3 := law_num 3
  have hn4 := law_num 4
  have henc := cpu_Encode op d a b imm h0 h1
  have htx := cpu_Text op d a b imm h0 h1
  have round : ∀ k n : Nat, k < 8 → (n = 0 ∨ (n = 1 ∧ d < k)) → (L'.getD k 0 = L.getD k 0 → (n = 0 ∨ (n = 1 ∧ d < (k + 1 : Nat)))) ∧ (¬ L'.getD k 0 = L.getD k 0 → n = 0 ∧ d < (k + 1 : Nat)) := by
    intro k n hk hj
    refine ⟨fun _ => by omega, fun hne => ?_⟩
    have hd : (k : Int) = d := Decidable.byContradiction fun h => hne (hkeep k hk h)
    omega
  by_cases hm : MayF op d a b imm (frm op).1 (frm op).2
  case pos =>
    rw [if_pos hm] at henc htx
    have hdec := decode_enc hm
    have hunt := untext_txt hm
    generalize txt op d a b imm = X at *
    generalize encI op d a b imm = W at *
    refine pure_fn cxOk Tryd.func7 (by kernel_rfl) (fun _ => false) (fun _ => none) (by kernel_rfl) (Nat.le_of_ble_eq_true (by kernel_rfl)) ?_
    dsimp only [LB, Tryd.f7, lite, nextOf, Option.isNone, Bool.not_true, Bool.not_false, Bool.and_true, Bool.true_and, Bool.false_and, Bool.and_self, Bool.false_eq_true, if_false, if_true, ↓reduceIte, liteO, List.map, Option.map, frame0, List.zipIdx, Nat.reduceAdd]
    try simp only [List.getElem?_toArray, List.getElem?_cons_succ, List.getElem?_cons_zero, Option.bind_some]
    repeat' (first
      | refine aC_seq ?_
      | refine aC_reg rfl ?_
      | refine aC_block ?_
      | refine aC_skip ?_
      | refine aC_loop ?_
      | refine aC_scope ?_
      | refine scopeQ_normal ?_
      | refine scopeQ_exit ?_
      | refine scopeQ_ret ?_
      | refine aC_exit ?_
      | refine aC_ret ?_
      | refine thenQ_normal ?_
      | refine blockQ_normal ?_
      | refine thenQ_ret ?_
      | refine blockQ_ret ?_
      | refine thenQ_exit ?_
      | refine blockQ_hit ?_
      | refine blockQ_miss rfl ?_
      | refine aL_nil ?_
      | (apply aL_step; (· exact True.intro); (· simp (disch := first | omega | (simp only [go_sem]; omega)) only [go_sem, get_miss, seval, reduceCtorEq, eq_self_iff_true, decide_true, decide_false, Bool.not_true, Bool.not_false, Int.reduceEq, bne_self_eq_false, not_false_eq_true, not_true_eq_false]); (· simp (disch := first | omega | (simp only [go_sem]; omega)) only [go_sem, get_miss, seval, reduceCtorEq, eq_self_iff_true, decide_true, decide_false, Bool.not_true, Bool.not_false, Int.reduceEq, bne_self_eq_false, not_false_eq_true, not_true_eq_false] <;> with_reducible rfl); (· simp only [go_sem] <;> with_reducible rfl))
      | (refine aL_skip ?_ (by simp only [go_sem] <;> with_reducible rfl) ?_; (· simp (disch := first | omega | (simp only [go_sem]; omega)) only [go_sem, get_miss, seval, reduceCtorEq, eq_self_iff_true, decide_true, decide_false, Bool.not_true, Bool.not_false, Int.reduceEq, bne_self_eq_false, not_false_eq_true, not_true_eq_false]))
      | (apply aL_guardN; (· simp (disch := first | omega | (simp only [go_sem]; omega)) only [go_sem, get_miss, seval, reduceCtorEq, eq_self_iff_true, decide_true, decide_false, Bool.not_true, Bool.not_false, Int.reduceEq, bne_self_eq_false, not_false_eq_true, not_true_eq_false] <;> with_reducible rfl); all_goals (intro h; first | (exfalso; omega) | (simp only [h, decide_true, decide_false, not_true, not_false_iff])))
      | (apply aL_guardP; (· simp (disch := first | omega | (simp only [go_sem]; omega)) only [go_sem, get_miss, seval, reduceCtorEq, eq_self_iff_true, decide_true, decide_false, Bool.not_true, Bool.not_false, Int.reduceEq, bne_self_eq_false, not_false_eq_true, not_true_eq_false] <;> with_reducible rfl); all_goals (intro h; first | (exfalso; omega) | (simp only [h, decide_true, decide_false, not_true, not_false_iff])))
      | (refine aC_condT ?_ ?_; (· simp (disch := first | omega | (simp only [go_sem]; omega)) only [go_sem, get_miss, seval, reduceCtorEq, eq_self_iff_true, decide_true, decide_false, Bool.not_true, Bool.not_false, Int.reduceEq, bne_self_eq_false, not_false_eq_true, not_true_eq_false]))
      | (refine aC_condF ?_ ?_; (· simp (disch := first | omega | (simp only [go_sem]; omega)) only [go_sem, get_miss, seval, reduceCtorEq, eq_self_iff_true, decide_true, decide_false, Bool.not_true, Bool.not_false, Int.reduceEq, bne_self_eq_false, not_false_eq_true, not_true_eq_false]))
      | (refine aC_condP (by simp (disch := first | omega | (simp only [go_sem]; omega)) only [go_sem, get_miss, seval, reduceCtorEq, eq_self_iff_true, decide_true, decide_false, Bool.not_true, Bool.not_false, Int.reduceEq, bne_self_eq_false, not_false_eq_true, not_true_eq_false] <;> with_reducible rfl) ?_ ?_ <;> (intro h; first | (exfalso; omega) | skip))
      | (apply aL_pure cxG (cpu_known); (case hg => (simp (disch := first | omega | (simp only [go_sem]; omega)) only [go_sem, get_miss, seval, reduceCtorEq, eq_self_iff_true, decide_true, decide_false, Bool.not_true, Bool.not_false, Int.reduceEq, bne_self_eq_false, not_false_eq_true, not_true_eq_false])); (case hx => (simp (disch := first | omega | (simp only [go_sem]; omega)) only [go_sem, get_miss, seval, reduceCtorEq, eq_self_iff_true, decide_true, decide_false, Bool.not_true, Bool.not_false, Int.reduceEq, bne_self_eq_false, not_false_eq_true, not_true_eq_false] <;> with_reducible rfl)); (case ha => (simp (disch := first | omega | (simp only [go_sem]; omega)) only [go_sem, get_miss, seval, reduceCtorEq, eq_self_iff_true, decide_true, decide_false, Bool.not_true, Bool.not_false, Int.reduceEq, bne_self_eq_false, not_false_eq_true, not_true_eq_false] <;> with_reducible rfl)); (case he => (simp only [go_sem] <;> with_reducible rfl)); (case hcl => (simp)); (case hf => (simp only [go_sem] <;> with_reducible rfl)))
      | (apply aL_pure cxG (henc); (case hg => (simp (disch := first | omega | (simp only [go_sem]; omega)) only [go_sem, get_miss, seval, reduceCtorEq, eq_self_iff_true, decide_true, decide_false, Bool.not_true, Bool.not_false, Int.reduceEq, bne_self_eq_false, not_false_eq_true, not_true_eq_false])); (case hx => (simp (disch := first | omega | (simp only [go_sem]; omega)) only [go_sem, get_miss, seval, reduceCtorEq, eq_self_iff_true, decide_true, decide_false, Bool.not_true, Bool.not_false, Int.reduceEq, bne_self_eq_false, not_false_eq_true, not_true_eq_false] <;> with_reducible rfl)); (case ha => (simp (disch := first | omega | (simp only [go_sem]; omega)) only [go_sem, get_miss, seval, reduceCtorEq, eq_self_iff_true, decide_true, decide_false, Bool.not_true, Bool.not_false, Int.reduceEq, bne_self_eq_false, not_false_eq_true, not_true_eq_false] <;> with_reducible rfl)); (case he => (simp only [go_sem] <;> with_reducible rfl)); (case hcl => (simp)); (case hf => (simp only [go_sem] <;> with_reducible rfl)))
      | (apply aL_pure cxG (htx); (case hg => (simp (disch := first | omega | (simp only [go_sem]; omega)) only [go_sem, get_miss, seval, reduceCtorEq, eq_self_iff_true, decide_true, decide_false, Bool.not_true, Bool.not_false, Int.reduceEq, bne_self_eq_false, not_false_eq_true, not_true_eq_false])); (case hx => (simp (disch := first | omega | (simp only [go_sem]; omega)) only [go_sem, get_miss, seval, reduceCtorEq, eq_self_iff_true, decide_true, decide_false, Bool.not_true, Bool.not_false, Int.reduceEq, bne_self_eq_false, not_false_eq_true, not_true_eq_false] <;> with_reducible rfl)); (case ha => (simp (disch := first | omega | (simp only [go_sem]; omega)) only [go_sem, get_miss, seval, reduceCtorEq, eq_self_iff_true, decide_true, decide_false, Bool.not_true, Bool.not_false, Int.reduceEq, bne_self_eq_false, not_false_eq_true, not_true_eq_false] <;> with_reducible rfl)); (case he => (simp only [go_sem] <;> with_reducible rfl)); (case hcl => (simp)); (case hf => (simp only [go_sem] <;> with_reducible rfl)))
      | (apply aL_pure cxG (hdec); (case hg => (simp (disch := first | omega | (simp only [go_sem]; omega)) only [go_sem, get_miss, seval, reduceCtorEq, eq_self_iff_true, decide_true, decide_false, Bool.not_true, Bool.not_false, Int.reduceEq, bne_self_eq_false, not_false_eq_true, not_true_eq_false])); (case hx => (simp (disch := first | omega | (simp only [go_sem]; omega)) only [go_sem, get_miss, seval, reduceCtorEq, eq_self_iff_true, decide_true, decide_false, Bool.not_true, Bool.not_false, Int.reduceEq, bne_self_eq_false, not_false_eq_true, not_true_eq_false] <;> with_reducible rfl)); (case ha => (simp (disch := first | omega | (simp only [go_sem]; omega)) only [go_sem, get_miss, seval, reduceCtorEq, eq_self_iff_true, decide_true, decide_false, Bool.not_true, Bool.not_false, Int.reduceEq, bne_self_eq_false, not_false_eq_true, not_true_eq_false] <;> with_reducible rfl)); (case he => (simp only [go_sem] <;> with_reducible rfl)); (case hcl => (simp)); (case hf => (simp only [go_sem] <;> with_reducible rfl)))
      | (apply aL_pure cxG (hunt); (case hg => (simp (disch := first | omega | (simp only [go_sem]; omega)) only [go_sem, get_miss, seval, reduceCtorEq, eq_self_iff_true, decide_true, decide_false, Bool.not_true, Bool.not_false, Int.reduceEq, bne_self_eq_false, not_false_eq_true, not_true_eq_false])); (case hx => (simp (disch := first | omega | (simp only [go_sem]; omega)) only [go_sem, get_miss, seval, reduceCtorEq, eq_self_iff_true, decide_true, decide_false, Bool.not_true, Bool.not_false, Int.reduceEq, bne_self_eq_false, not_false_eq_true, not_true_eq_false] <;> with_reducible rfl)); (case ha => (simp (disch := first | omega | (simp only [go_sem]; omega)) only [go_sem, get_miss, seval, reduceCtorEq, eq_self_iff_true, decide_true, decide_false, Bool.not_true, Bool.not_false, Int.reduceEq, bne_self_eq_false, not_false_eq_true, not_true_eq_false] <;> with_reducible rfl)); (case he => (simp only [go_sem] <;> with_reducible rfl)); (case hcl => (simp)); (case hf => (simp only [go_sem] <;> with_reducible rfl)))
      | (apply aL_pure cxG (hdo); (case hg => (simp (disch := first | omega | (simp only [go_sem]; omega)) only [go_sem, get_miss, seval, reduceCtorEq, eq_self_iff_true, decide_true, decide_false, Bool.not_true, Bool.not_false, Int.reduceEq, bne_self_eq_false, not_false_eq_true, not_true_eq_false])); (case hx => (simp (disch := first | omega | (simp only [go_sem]; omega)) only [go_sem, get_miss, seval, reduceCtorEq, eq_self_iff_true, decide_true, decide_false, Bool.not_true, Bool.not_false, Int.reduceEq, bne_self_eq_false, not_false_eq_true, not_true_eq_false] <;> with_reducible rfl)); (case ha => (simp (disch := first | omega | (simp only [go_sem]; omega)) only [go_sem, get_miss, seval, reduceCtorEq, eq_self_iff_true, decide_true, decide_false, Bool.not_true, Bool.not_false, Int.reduceEq, bne_self_eq_false, not_false_eq_true, not_true_eq_false] <;> with_reducible rfl)); (case he => (simp only [go_sem] <;> with_reducible rfl)); (case hcl => (simp)); (case hf => (simp only [go_sem] <;> with_reducible rfl)))
      | (apply aL_pure cxG (hn0); (case hg => (simp (disch := first | omega | (simp only [go_sem]; omega)) only [go_sem, get_miss, seval, reduceCtorEq, eq_self_iff_true, decide_true, decide_false, Bool.not_true, Bool.not_false, Int.reduceEq, bne_self_eq_false, not_false_eq_true, not_true_eq_false])); (case hx => (simp (disch := first | omega | (simp only [go_sem]; omega)) only [go_sem, get_miss, seval, reduceCtorEq, eq_self_iff_true, decide_true, decide_false, Bool.not_true, Bool.not_false, Int.reduceEq, bne_self_eq_false, not_false_eq_true, not_true_eq_false] <;> with_reducible rfl)); (case ha => (simp (disch := first | omega | (simp only [go_sem]; omega)) only [go_sem, get_miss, seval, reduceCtorEq, eq_self_iff_true, decide_true, decide_false, Bool.not_true, Bool.not_false, Int.reduceEq, bne_self_eq_false, not_false_eq_true, not_true_eq_false] <;> with_reducible rfl)); (case he => (simp only [go_sem] <;> with_reducible rfl)); (case hcl => (simp)); (case hf => (simp only [go_sem] <;> with_reducible rfl)))
      | fail)
    · refine loop_rule (cxOk.wp _ _) (σ := Nat × Nat) (fun x => [(20, .int .i64 x.1), (19, .int .i64 x.2), (17, .ptr 4 0), (5, .ptr 1 0), (3, .sl 1 nl (wl l) .any)]) (fun _ => [.cells [.int .i64 op, .int .i64 d, .int .i64 a, .int .i64 b, .int .i64 imm] 26, .cells (ws L) 38, .cells [.int .i64 op, .int .i64 d, .int .i64 a, .int .i64 b, .int .i64 imm] 26, .cells [.int .i64 op, .int .i64 d, .int .i64 a, .int .i64 b, .int .i64 imm] 26, .cells (ws L') 38, .cells [.int .i64 k1, .int .i64 k2] 41])
        (fun x => 8 - x.1) (fun x => x.1 ≤ 8 ∧ (x.2 = 0 ∨ (x.2 = 1 ∧ d < x.1))) (0, 0) (GStep.refl _ _) ⟨⟨by omega, .inl rfl⟩, Sub.of_all (by simp [Fr.get]), rfl⟩ ?_
      rintro ⟨k, n⟩ ⟨hk, hj⟩
      simp only at hk hj ⊢
      by_cases hlt : k < 8
      · obtain ⟨r1, r2⟩ := round k n hlt hj
        clear round hkeep hdo
        by_cases hxy : L'.getD k 0 = L.getD k 0
        · have hj' := r1 hxy
          clear r1 r2
          repeat' (first
            | refine aC_seq ?_
            | refine aC_reg rfl ?_
            | refine aC_block ?_
            | refine aC_skip ?_
            | refine aC_loop ?_
            | refine aC_scope ?_
            | refine scopeQ_normal ?_
            | refine scopeQ_exit ?_
            | refine scopeQ_ret ?_
            | refine aC_exit ?_
            | refine aC_ret ?_
            | refine thenQ_normal ?_
            | refine blockQ_normal ?_
            | refine thenQ_ret ?_
            | refine blockQ_ret ?_
            | refine thenQ_exit ?_
            | refine blockQ_hit ?_
            | refine blockQ_miss rfl ?_
            | refine aL_nil ?_
            | (apply aL_step; (· exact True.intro); (· simp (disch := first | omega | (simp only [go_sem]; omega)) only [go_sem, get_miss, seval, reduceCtorEq, hxy, eq_self_iff_true, decide_true, decide_false, Bool.not_true, Bool.not_false, Int.reduceEq, bne_self_eq_false, not_false_eq_true, not_true_eq_false]); (· simp (disch := first | omega | (simp only [go_sem]; omega)) only [go_sem, get_miss, seval, reduceCtorEq, hxy, eq_self_iff_true, decide_true, decide_false, Bool.not_true, Bool.not_false, Int.reduceEq, bne_self_eq_false, not_false_eq_true, not_true_eq_false] <;> with_reducible rfl); (· simp only [go_sem] <;> with_reducible rfl))
            | (refine aL_skip ?_ (by simp only [go_sem] <;> with_reducible rfl) ?_; (· simp (disch := first | omega | (simp only [go_sem]; omega)) only [go_sem, get_miss, seval, reduceCtorEq, hxy, eq_self_iff_true, decide_true, decide_false, Bool.not_true, Bool.not_false, Int.reduceEq, bne_self_eq_false, not_false_eq_true, not_true_eq_false]))
            | (apply aL_guardN; (· simp (disch := first | omega | (simp only [go_sem]; omega)) only [go_sem, get_miss, seval, reduceCtorEq, hxy, eq_self_iff_true, decide_true, decide_false, Bool.not_true, Bool.not_false, Int.reduceEq, bne_self_eq_false, not_false_eq_true, not_true_eq_false] <;> with_reducible rfl); all_goals (intro h; first | (exfalso; omega) | (simp only [h, decide_true, decide_false, not_true, not_false_iff])))
            | (apply aL_guardP; (· simp (disch := first | omega | (simp only [go_sem]; omega)) only [go_sem, get_miss, seval, reduceCtorEq, hxy, eq_self_iff_true, decide_true, decide_false, Bool.not_true, Bool.not_false, Int.reduceEq, bne_self_eq_false, not_false_eq_true, not_true_eq_false] <;> with_reducible rfl); all_goals (intro h; first | (exfalso; omega) | (simp only [h, decide_true, decide_false, not_true, not_false_iff])))
            | (refine aC_condT ?_ ?_; (· simp (disch := first | omega | (simp only [go_sem]; omega)) only [go_sem, get_miss, seval, reduceCtorEq, hxy, eq_self_iff_true, decide_true, decide_false, Bool.not_true, Bool.not_false, Int.reduceEq, bne_self_eq_false, not_false_eq_true, not_true_eq_false]))
            | (refine aC_condF ?_ ?_; (· simp (disch := first | omega | (simp only [go_sem]; omega)) only [go_sem, get_miss, seval, reduceCtorEq, hxy, eq_self_iff_true, decide_true, decide_false, Bool.not_true, Bool.not_false, Int.reduceEq, bne_self_eq_false, not_false_eq_true, not_true_eq_false]))
            | (refine aC_condP (by simp (disch := first | omega | (simp only [go_sem]; omega)) only [go_sem, get_miss, seval, reduceCtorEq, hxy, eq_self_iff_true, decide_true, decide_false, Bool.not_true, Bool.not_false, Int.reduceEq, bne_self_eq_false, not_false_eq_true, not_true_eq_false] <;> with_reducible rfl) ?_ ?_ <;> (intro h; first | (exfalso; omega) | skip))
            | fail)
          all_goals try (first | exact True.intro | omega)
          all_goals try (simp (disch := first | omega | (simp only [go_sem]; omega)) only [go_sem, get_miss, seval, reduceCtorEq] <;> first | exact True.intro | omega)
          all_goals first | trivial | exact ⟨(k + 1, n), ⟨by simp; omega, hj'⟩, Sub.of_all (by simp [Fr.get]), rfl, by simp; omega⟩ | omega
        · obtain ⟨rfl, hj'⟩ := r2 hxy
          clear r1 r2
          repeat' (first
            | refine aC_seq ?_
            | refine aC_reg rfl ?_
            | refine aC_block ?_
            | refine aC_skip ?_
            | refine aC_loop ?_
            | refine aC_scope ?_
            | refine scopeQ_normal ?_
            | refine scopeQ_exit ?_
            | refine scopeQ_ret ?_
            | refine aC_exit ?_
            | refine aC_ret ?_
            | refine thenQ_normal ?_
            | refine blockQ_normal ?_
            | refine thenQ_ret ?_
            | refine blockQ_ret ?_
            | refine thenQ_exit ?_
            | refine blockQ_hit ?_
            | refine blockQ_miss rfl ?_
            | refine aL_nil ?_
            | (apply aL_step; (· exact True.intro); (· simp (disch := first | omega | (simp only [go_sem]; omega)) only [go_sem, get_miss, seval, reduceCtorEq, hxy, eq_self_iff_true, decide_true, decide_false, Bool.not_true, Bool.not_false, Int.reduceEq, bne_self_eq_false, not_false_eq_true, not_true_eq_false]); (· simp (disch := first | omega | (simp only [go_sem]; omega)) only [go_sem, get_miss, seval, reduceCtorEq, hxy, eq_self_iff_true, decide_true, decide_false, Bool.not_true, Bool.not_false, Int.reduceEq, bne_self_eq_false, not_false_eq_true, not_true_eq_false] <;> with_reducible rfl); (· simp only [go_sem] <;> with_reducible rfl))
            | (refine aL_skip ?_ (by simp only [go_sem] <;> with_reducible rfl) ?_; (· simp (disch := first | omega | (simp only [go_sem]; omega)) only [go_sem, get_miss, seval, reduceCtorEq, hxy, eq_self_iff_true, decide_true, decide_false, Bool.not_true, Bool.not_false, Int.reduceEq, bne_self_eq_false, not_false_eq_true, not_true_eq_false]))
            | (apply aL_guardN; (· simp (disch := first | omega | (simp only [go_sem]; omega)) only [go_sem, get_miss, seval, reduceCtorEq, hxy, eq_self_iff_true, decide_true, decide_false, Bool.not_true, Bool.not_false, Int.reduceEq, bne_self_eq_false, not_false_eq_true, not_true_eq_false] <;> with_reducible rfl); all_goals (intro h; first | (exfalso; omega) | (simp only [h, decide_true, decide_false, not_true, not_false_iff])))
            | (apply aL_guardP; (· simp (disch := first | omega | (simp only [go_sem]; omega)) only [go_sem, get_miss, seval, reduceCtorEq, hxy, eq_self_iff_true, decide_true, decide_false, Bool.not_true, Bool.not_false, Int.reduceEq, bne_self_eq_false, not_false_eq_true, not_true_eq_false] <;> with_reducible rfl); all_goals (intro h; first | (exfalso; omega) | (simp only [h, decide_true, decide_false, not_true, not_false_iff])))
            | (refine aC_condT ?_ ?_; (· simp (disch := first | omega | (simp only [go_sem]; omega)) only [go_sem, get_miss, seval, reduceCtorEq, hxy, eq_self_iff_true, decide_true, decide_false, Bool.not_true, Bool.not_false, Int.reduceEq, bne_self_eq_false, not_false_eq_true, not_true_eq_false]))
            | (refine aC_condF ?_ ?_; (· simp (disch := first | omega | (simp only [go_sem]; omega)) only [go_sem, get_miss, seval, reduceCtorEq, hxy, eq_self_iff_true, decide_true, decide_false, Bool.not_true, Bool.not_false, Int.reduceEq, bne_self_eq_false, not_false_eq_true, not_true_eq_false]))
            | (refine aC_condP (by simp (disch := first | omega | (simp only [go_sem]; omega)) only [go_sem, get_miss, seval, reduceCtorEq, hxy, eq_self_iff_true, decide_true, decide_false, Bool.not_true, Bool.not_false, Int.reduceEq, bne_self_eq_false, not_false_eq_true, not_true_eq_false] <;> with_reducible rfl) ?_ ?_ <;> (intro h; first | (exfalso; omega) | skip))
            | fail)
          all_goals try (first | exact True.intro | omega)
          all_goals try (simp (disch := first | omega | (simp only [go_sem]; omega)) only [go_sem, get_miss, seval, reduceCtorEq] <;> first | exact True.intro | omega)
          all_goals first | trivial | exact ⟨(k + 1, 1), ⟨by simp; omega, .inr ⟨rfl, hj'⟩⟩, Sub.of_all (by simp [Fr.get]), rfl, by simp; omega⟩ | omega
      · have hk8 : k = 8 := by omega
        subst hk8
        clear round hkeep hdo
        have hn1 : n ≤ 1 := by omega
        by_cases h600 : l.length ≤ 600
        · obtain ⟨t, e, hls, hcase⟩ := list_back nl l hlw h600 hn
          have hsm := law_same l.isEmpty nl l l (by omega) (by omega)
          rw [decide_eq_true rfl] at hsm
          rcases hcase with (rfl | rfl) | ⟨rfl, hpr⟩
          all_goals
          repeat' (first
            | refine aC_seq ?_
            | refine aC_reg rfl ?_
            | refine aC_block ?_
            | refine aC_skip ?_
            | refine aC_loop ?_
            | refine aC_scope ?_
            | refine scopeQ_normal ?_
            | refine scopeQ_exit ?_
            | refine scopeQ_ret ?_
            | refine aC_exit ?_
            | refine aC_ret ?_
            | refine thenQ_normal ?_
            | refine blockQ_normal ?_
            | refine thenQ_ret ?_
            | refine blockQ_ret ?_
            | refine thenQ_exit ?_
            | refine blockQ_hit ?_
            | refine blockQ_miss rfl ?_
            | refine aL_nil ?_
            | (apply aL_step; (· exact True.intro); (· simp (disch := first | omega | (simp only [go_sem]; omega)) only [go_sem, get_miss, seval, reduceCtorEq, eq_self_iff_true, decide_true, decide_false, Bool.not_true, Bool.not_false, Int.reduceEq, bne_self_eq_false, not_false_eq_true, not_true_eq_false]); (· simp (disch := first | omega | (simp only [go_sem]; omega)) only [go_sem, get_miss, seval, reduceCtorEq, eq_self_iff_true, decide_true, decide_false, Bool.not_true, Bool.not_false, Int.reduceEq, bne_self_eq_false, not_false_eq_true, not_true_eq_false] <;> with_reducible rfl); (· simp only [go_sem] <;> with_reducible rfl))
            | (refine aL_skip ?_ (by simp only [go_sem] <;> with_reducible rfl) ?_; (· simp (disch := first | omega | (simp only [go_sem]; omega)) only [go_sem, get_miss, seval, reduceCtorEq, eq_self_iff_true, decide_true, decide_false, Bool.not_true, Bool.not_false, Int.reduceEq, bne_self_eq_false, not_false_eq_true, not_true_eq_false]))
            | (apply aL_guardN; (· simp (disch := first | omega | (simp only [go_sem]; omega)) only [go_sem, get_miss, seval, reduceCtorEq, eq_self_iff_true, decide_true, decide_false, Bool.not_true, Bool.not_false, Int.reduceEq, bne_self_eq_false, not_false_eq_true, not_true_eq_false] <;> with_reducible rfl); all_goals (intro h; first | (exfalso; omega) | (simp only [h, decide_true, decide_false, not_true, not_false_iff])))
            | (apply aL_guardP; (· simp (disch := first | omega | (simp only [go_sem]; omega)) only [go_sem, get_miss, seval, reduceCtorEq, eq_self_iff_true, decide_true, decide_false, Bool.not_true, Bool.not_false, Int.reduceEq, bne_self_eq_false, not_false_eq_true, not_true_eq_false] <;> with_reducible rfl); all_goals (intro h; first | (exfalso; omega) | (simp only [h, decide_true, decide_false, not_true, not_false_iff])))
            | (refine aC_condT ?_ ?_; (· simp (disch := first | omega | (simp only [go_sem]; omega)) only [go_sem, get_miss, seval, reduceCtorEq, eq_self_iff_true, decide_true, decide_false, Bool.not_true, Bool.not_false, Int.reduceEq, bne_self_eq_false, not_false_eq_true, not_true_eq_false]))
            | (refine aC_condF ?_ ?_; (· simp (disch := first | omega | (simp only [go_sem]; omega)) only [go_sem, get_miss, seval, reduceCtorEq, eq_self_iff_true, decide_true, decide_false, Bool.not_true, Bool.not_false, Int.reduceEq, bne_self_eq_false, not_false_eq_true, not_true_eq_false]))
            | (refine aC_condP (by simp (disch := first | omega | (simp only [go_sem]; omega)) only [go_sem, get_miss, seval, reduceCtorEq, eq_self_iff_true, decide_true, decide_false, Bool.not_true, Bool.not_false, Int.reduceEq, bne_self_eq_false, not_false_eq_true, not_true_eq_false] <;> with_reducible rfl) ?_ ?_ <;> (intro h; first | (exfalso; omega) | skip))
            | (apply aL_pure cxG (hls); (case hg => (simp (disch := first | omega | (simp only [go_sem]; omega)) only [go_sem, get_miss, seval, reduceCtorEq, eq_self_iff_true, decide_true, decide_false, Bool.not_true, Bool.not_false, Int.reduceEq, bne_self_eq_false, not_false_eq_true, not_true_eq_false])); (case hx => (simp (disch := first | omega | (simp only [go_sem]; omega)) only [go_sem, get_miss, seval, reduceCtorEq, eq_self_iff_true, decide_true, decide_false, Bool.not_true, Bool.not_false, Int.reduceEq, bne_self_eq_false, not_false_eq_true, not_true_eq_false] <;> with_reducible rfl)); (case ha => (simp (disch := first | omega | (simp only [go_sem]; omega)) only [go_sem, get_miss, seval, reduceCtorEq, eq_self_iff_true, decide_true, decide_false, Bool.not_true, Bool.not_false, Int.reduceEq, bne_self_eq_false, not_false_eq_true, not_true_eq_false] <;> with_reducible rfl)); (case he => (simp only [go_sem] <;> with_reducible rfl)); (case hcl => (simp)); (case hf => (simp only [go_sem] <;> with_reducible rfl)))
            | (apply aL_pure cxG (hn0); (case hg => (simp (disch := first | omega | (simp only [go_sem]; omega)) only [go_sem, get_miss, seval, reduceCtorEq, eq_self_iff_true, decide_true, decide_false, Bool.not_true, Bool.not_false, Int.reduceEq, bne_self_eq_false, not_false_eq_true, not_true_eq_false])); (case hx => (simp (disch := first | omega | (simp only [go_sem]; omega)) only [go_sem, get_miss, seval, reduceCtorEq, eq_self_iff_true, decide_true, decide_false, Bool.not_true, Bool.not_false, Int.reduceEq, bne_self_eq_false, not_false_eq_true, not_true_eq_false] <;> with_reducible rfl)); (case ha => (simp (disch := first | omega | (simp only [go_sem]; omega)) only [go_sem, get_miss, seval, reduceCtorEq, eq_self_iff_true, decide_true, decide_false, Bool.not_true, Bool.not_false, Int.reduceEq, bne_self_eq_false, not_false_eq_true, not_true_eq_false] <;> with_reducible rfl)); (case he => (simp only [go_sem] <;> with_reducible rfl)); (case hcl => (simp)); (case hf => (simp only [go_sem] <;> with_reducible rfl)))
            | (apply aL_pure cxG (hn3); (case hg => (simp (disch := first | omega | (simp only [go_sem]; omega)) only [go_sem, get_miss, seval, reduceCtorEq, eq_self_iff_true, decide_true, decide_false, Bool.not_true, Bool.not_false, Int.reduceEq, bne_self_eq_false, not_false_eq_true, not_true_eq_false])); (case hx => (simp (disch := first | omega | (simp only [go_sem]; omega)) only [go_sem, get_miss, seval, reduceCtorEq, eq_self_iff_true, decide_true, decide_false, Bool.not_true, Bool.not_false, Int.reduceEq, bne_self_eq_false, not_false_eq_true, not_true_eq_false] <;> with_reducible rfl)); (case ha => (simp (disch := first | omega | (simp only [go_sem]; omega)) only [go_sem, get_miss, seval, reduceCtorEq, eq_self_iff_true, decide_true, decide_false, Bool.not_true, Bool.not_false, Int.reduceEq, bne_self_eq_false, not_false_eq_true, not_true_eq_false] <;> with_reducible rfl)); (case he => (simp only [go_sem] <;> with_reducible rfl)); (case hcl => (simp)); (case hf => (simp only [go_sem] <;> with_reducible rfl)))
            | (apply aL_pure cxG (hn4); (case hg => (simp (disch := first | omega | (simp only [go_sem]; omega)) only [go_sem, get_miss, seval, reduceCtorEq, eq_self_iff_true, decide_true, decide_false, Bool.not_true, Bool.not_false, Int.reduceEq, bne_self_eq_false, not_false_eq_true, not_true_eq_false])); (case hx => (simp (disch := first | omega | (simp only [go_sem]; omega)) only [go_sem, get_miss, seval, reduceCtorEq, eq_self_iff_true, decide_true, decide_false, Bool.not_true, Bool.not_false, Int.reduceEq, bne_self_eq_false, not_false_eq_true, not_true_eq_false] <;> with_reducible rfl)); (case ha => (simp (disch := first | omega | (simp only [go_sem]; omega)) only [go_sem, get_miss, seval, reduceCtorEq, eq_self_iff_true, decide_true, decide_false, Bool.not_true, Bool.not_false, Int.reduceEq, bne_self_eq_false, not_false_eq_true, not_true_eq_false] <;> with_reducible rfl)); (case he => (simp only [go_sem] <;> with_reducible rfl)); (case hcl => (simp)); (case hf => (simp only [go_sem] <;> with_reducible rfl)))
            | (apply aL_pure cxG (hpr); (case hg => (simp (disch := first | omega | (simp only [go_sem]; omega)) only [go_sem, get_miss, seval, reduceCtorEq, eq_self_iff_true, decide_true, decide_false, Bool.not_true, Bool.not_false, Int.reduceEq, bne_self_eq_false, not_false_eq_true, not_true_eq_false])); (case hx => (simp (disch := first | omega | (simp only [go_sem]; omega)) only [go_sem, get_miss, seval, reduceCtorEq, eq_self_iff_true, decide_true, decide_false, Bool.not_true, Bool.not_false, Int.reduceEq, bne_self_eq_false, not_false_eq_true, not_true_eq_false] <;> with_reducible rfl)); (case ha => (simp (disch := first | omega | (simp only [go_sem]; omega)) only [go_sem, get_miss, seval, reduceCtorEq, eq_self_iff_true, decide_true, decide_false, Bool.not_true, Bool.not_false, Int.reduceEq, bne_self_eq_false, not_false_eq_true, not_true_eq_false] <;> with_reducible rfl)); (case he => (simp only [go_sem] <;> with_reducible rfl)); (case hcl => (simp)); (case hf => (simp only [go_sem] <;> with_reducible rfl)))
            | (apply aL_pure cxG (hsm); (case hg => (simp (disch := first | omega | (simp only [go_sem]; omega)) only [go_sem, get_miss, seval, reduceCtorEq, eq_self_iff_true, decide_true, decide_false, Bool.not_true, Bool.not_false, Int.reduceEq, bne_self_eq_false, not_false_eq_true, not_true_eq_false])); (case hx => (simp (disch := first | omega | (simp only [go_sem]; omega)) only [go_sem, get_miss, seval, reduceCtorEq, eq_self_iff_true, decide_true, decide_false, Bool.not_true, Bool.not_false, Int.reduceEq, bne_self_eq_false, not_false_eq_true, not_true_eq_false] <;> with_reducible rfl)); (case ha => (simp (disch := first | omega | (simp only [go_sem]; omega)) only [go_sem, get_miss, seval, reduceCtorEq, eq_self_iff_true, decide_true, decide_false, Bool.not_true, Bool.not_false, Int.reduceEq, bne_self_eq_false, not_false_eq_true, not_true_eq_false] <;> with_reducible rfl)); (case he => (simp only [go_sem] <;> with_reducible rfl)); (case hcl => (simp)); (case hf => (simp only [go_sem] <;> with_reducible rfl)))
            | fail)
          all_goals try (first | exact True.intro | omega)
          all_goals try (simp (disch := first | omega | (simp only [go_sem]; omega)) only [go_sem, get_miss, seval, reduceCtorEq] <;> first | exact True.intro | omega)
          all_goals (clear hsm hls hn0 hn2 hn3 hn4)
          all_goals try (simp (disch := first | omega | (simp only [go_sem]; omega)) only [go_sem, get_miss, seval, reduceCtorEq])
          all_goals try simp
        · repeat' (first
            | refine aC_seq ?_
            | refine aC_reg rfl ?_
            | refine aC_block ?_
            | refine aC_skip ?_
            | refine aC_loop ?_
            | refine aC_scope ?_
            | refine scopeQ_normal ?_
            | refine scopeQ_exit ?_
            | refine scopeQ_ret ?_
            | refine aC_exit ?_
            | refine aC_ret ?_
            | refine thenQ_normal ?_
            | refine blockQ_normal ?_
            | refine thenQ_ret ?_
            | refine blockQ_ret ?_
            | refine thenQ_exit ?_
            | refine blockQ_hit ?_
            | refine blockQ_miss rfl ?_
            | refine aL_nil ?_
            | (apply aL_step; (· exact True.intro); (· simp (disch := first | omega | (simp only [go_sem]; omega)) only [go_sem, get_miss, seval, reduceCtorEq]); (· simp (disch := first | omega | (simp only [go_sem]; omega)) only [go_sem, get_miss, seval, reduceCtorEq] <;> with_reducible rfl); (· simp only [go_sem] <;> with_reducible rfl))
            | (refine aL_skip ?_ (by simp only [go_sem] <;> with_reducible rfl) ?_; (· simp (disch := first | omega | (simp only [go_sem]; omega)) only [go_sem, get_miss, seval, reduceCtorEq]))
            | (apply aL_guardN; (· simp (disch := first | omega | (simp only [go_sem]; omega)) only [go_sem, get_miss, seval, reduceCtorEq] <;> with_reducible rfl); all_goals (intro h; first | (exfalso; omega) | (simp only [h, decide_true, decide_false, not_true, not_false_iff])))
            | (apply aL_guardP; (· simp (disch := first | omega | (simp only [go_sem]; omega)) only [go_sem, get_miss, seval, reduceCtorEq] <;> with_reducible rfl); all_goals (intro h; first | (exfalso; omega) | (simp only [h, decide_true, decide_false, not_true, not_false_iff])))
            | (refine aC_condT ?_ ?_; (· simp (disch := first | omega | (simp only [go_sem]; omega)) only [go_sem, get_miss, seval, reduceCtorEq]))
            | (refine aC_condF ?_ ?_; (· simp (disch := first | omega | (simp only [go_sem]; omega)) only [go_sem, get_miss, seval, reduceCtorEq]))
            | (refine aC_condP (by simp (disch := first | omega | (simp only [go_sem]; omega)) only [go_sem, get_miss, seval, reduceCtorEq] <;> with_reducible rfl) ?_ ?_ <;> (intro h; first | (exfalso; omega) | skip))
            | fail)
          all_goals try (first | exact True.intro | omega)
          all_goals try (simp (disch := first | omega | (simp only [go_sem]; omega)) only [go_sem, get_miss, seval, reduceCtorEq] <;> first | exact True.intro | omega)
          all_goals try (simp (disch := first | omega | (simp only [go_sem]; omega)) only [go_sem, get_miss, seval, reduceCtorEq])
          all_goals try simp
    all_goals first | trivial | omega | exact ⟨by kernel_rfl, by kernel_rfl⟩
  case neg =>
    rw [if_neg hm] at henc htx
    refine pure_fn cxOk Tryd.func7 (by kernel_rfl) (fun _ => false) (fun _ => none) (by kernel_rfl) (Nat.le_of_ble_eq_true (by kernel_rfl)) ?_
    dsimp only [LB, Tryd.f7, lite, nextOf, Option.isNone, Bool.not_true, Bool.not_false, Bool.and_true, Bool.true_and, Bool.false_and, Bool.and_self, Bool.false_eq_true, if_false, if_true, ↓reduceIte, liteO, List.map, Option.map, frame0, List.zipIdx, Nat.reduceAdd]
    try simp only [List.getElem?_toArray, List.getElem?_cons_succ, List.getElem?_cons_zero, Option.bind_some]
    repeat' (first
      | refine aC_seq ?_
      | refine aC_reg rfl ?_
      | refine aC_block ?_
      | refine aC_skip ?_
      | refine aC_loop ?_
      | refine aC_scope ?_
      | refine scopeQ_normal ?_
      | refine scopeQ_exit ?_
      | refine scopeQ_ret ?_
      | refine aC_exit ?_
      | refine aC_ret ?_
      | refine thenQ_normal ?_
      | refine blockQ_normal ?_
      | refine thenQ_ret ?_
      | refine blockQ_ret ?_
      | refine thenQ_exit ?_
      | refine blockQ_hit ?_
      | refine blockQ_miss rfl ?_
      | refine aL_nil ?_
      | (apply aL_step; (· exact True.intro); (· simp (disch := first | omega | (simp only [go_sem]; omega)) only [go_sem, get_miss, seval, reduceCtorEq, eq_self_iff_true, decide_true, decide_false, Bool.not_true, Bool.not_false, Int.reduceEq, bne_self_eq_false, not_false_eq_true, not_true_eq_false]); (· simp (disch := first | omega | (simp only [go_sem]; omega)) only [go_sem, get_miss, seval, reduceCtorEq, eq_self_iff_true, decide_true, decide_false, Bool.not_true, Bool.not_false, Int.reduceEq, bne_self_eq_false, not_false_eq_true, not_true_eq_false] <;> with_reducible rfl); (· simp only [go_sem] <;> with_reducible rfl))
      | (refine aL_skip ?_ (by simp only [go_sem] <;> with_reducible rfl) ?_; (· simp (disch := first | omega | (simp only [go_sem]; omega)) only [go_sem, get_miss, seval, reduceCtorEq, eq_self_iff_true, decide_true, decide_false, Bool.not_true, Bool.not_false, Int.reduceEq, bne_self_eq_false, not_false_eq_true, not_true_eq_false]))
      | (apply aL_guardN; (· simp (disch := first | omega | (simp only [go_sem]; omega)) only [go_sem, get_miss, seval, reduceCtorEq, eq_self_iff_true, decide_true, decide_false, Bool.not_true, Bool.not_false, Int.reduceEq, bne_self_eq_false, not_false_eq_true, not_true_eq_false] <;> with_reducible rfl); all_goals (intro h; first | (exfalso; omega) | (simp only [h, decide_true, decide_false, not_true, not_false_iff])))
      | (apply aL_guardP; (· simp (disch := first | omega | (simp only [go_sem]; omega)) only [go_sem, get_miss, seval, reduceCtorEq, eq_self_iff_true, decide_true, decide_false, Bool.not_true, Bool.not_false, Int.reduceEq, bne_self_eq_false, not_false_eq_true, not_true_eq_false] <;> with_reducible rfl); all_goals (intro h; first | (exfalso; omega) | (simp only [h, decide_true, decide_false, not_true, not_false_iff])))
      | (refine aC_condT ?_ ?_; (· simp (disch := first | omega | (simp only [go_sem]; omega)) only [go_sem, get_miss, seval, reduceCtorEq, eq_self_iff_true, decide_true, decide_false, Bool.not_true, Bool.not_false, Int.reduceEq, bne_self_eq_false, not_false_eq_true, not_true_eq_false]))
      | (refine aC_condF ?_ ?_; (· simp (disch := first | omega | (simp only [go_sem]; omega)) only [go_sem, get_miss, seval, reduceCtorEq, eq_self_iff_true, decide_true, decide_false, Bool.not_true, Bool.not_false, Int.reduceEq, bne_self_eq_false, not_false_eq_true, not_true_eq_false]))
      | (refine aC_condP (by simp (disch := first | omega | (simp only [go_sem]; omega)) only [go_sem, get_miss, seval, reduceCtorEq, eq_self_iff_true, decide_true, decide_false, Bool.not_true, Bool.not_false, Int.reduceEq, bne_self_eq_false, not_false_eq_true, not_true_eq_false] <;> with_reducible rfl) ?_ ?_ <;> (intro h; first | (exfalso; omega) | skip))
      | (apply aL_pure cxG (cpu_known); (case hg => (simp (disch := first | omega | (simp only [go_sem]; omega)) only [go_sem, get_miss, seval, reduceCtorEq, eq_self_iff_true, decide_true, decide_false, Bool.not_true, Bool.not_false, Int.reduceEq, bne_self_eq_false, not_false_eq_true, not_true_eq_false])); (case hx => (simp (disch := first | omega | (simp only [go_sem]; omega)) only [go_sem, get_miss, seval, reduceCtorEq, eq_self_iff_true, decide_true, decide_false, Bool.not_true, Bool.not_false, Int.reduceEq, bne_self_eq_false, not_false_eq_true, not_true_eq_false] <;> with_reducible rfl)); (case ha => (simp (disch := first | omega | (simp only [go_sem]; omega)) only [go_sem, get_miss, seval, reduceCtorEq, eq_self_iff_true, decide_true, decide_false, Bool.not_true, Bool.not_false, Int.reduceEq, bne_self_eq_false, not_false_eq_true, not_true_eq_false] <;> with_reducible rfl)); (case he => (simp only [go_sem] <;> with_reducible rfl)); (case hcl => (simp)); (case hf => (simp only [go_sem] <;> with_reducible rfl)))
      | (apply aL_pure cxG (henc); (case hg => (simp (disch := first | omega | (simp only [go_sem]; omega)) only [go_sem, get_miss, seval, reduceCtorEq, eq_self_iff_true, decide_true, decide_false, Bool.not_true, Bool.not_false, Int.reduceEq, bne_self_eq_false, not_false_eq_true, not_true_eq_false])); (case hx => (simp (disch := first | omega | (simp only [go_sem]; omega)) only [go_sem, get_miss, seval, reduceCtorEq, eq_self_iff_true, decide_true, decide_false, Bool.not_true, Bool.not_false, Int.reduceEq, bne_self_eq_false, not_false_eq_true, not_true_eq_false] <;> with_reducible rfl)); (case ha => (simp (disch := first | omega | (simp only [go_sem]; omega)) only [go_sem, get_miss, seval, reduceCtorEq, eq_self_iff_true, decide_true, decide_false, Bool.not_true, Bool.not_false, Int.reduceEq, bne_self_eq_false, not_false_eq_true, not_true_eq_false] <;> with_reducible rfl)); (case he => (simp only [go_sem] <;> with_reducible rfl)); (case hcl => (simp)); (case hf => (simp only [go_sem] <;> with_reducible rfl)))
      | (apply aL_pure cxG (htx); (case hg => (simp (disch := first | omega | (simp only [go_sem]; omega)) only [go_sem, get_miss, seval, reduceCtorEq, eq_self_iff_true, decide_true, decide_false, Bool.not_true, Bool.not_false, Int.reduceEq, bne_self_eq_false, not_false_eq_true, not_true_eq_false])); (case hx => (simp (disch := first | omega | (simp only [go_sem]; omega)) only [go_sem, get_miss, seval, reduceCtorEq, eq_self_iff_true, decide_true, decide_false, Bool.not_true, Bool.not_false, Int.reduceEq, bne_self_eq_false, not_false_eq_true, not_true_eq_false] <;> with_reducible rfl)); (case ha => (simp (disch := first | omega | (simp only [go_sem]; omega)) only [go_sem, get_miss, seval, reduceCtorEq, eq_self_iff_true, decide_true, decide_false, Bool.not_true, Bool.not_false, Int.reduceEq, bne_self_eq_false, not_false_eq_true, not_true_eq_false] <;> with_reducible rfl)); (case he => (simp only [go_sem] <;> with_reducible rfl)); (case hcl => (simp)); (case hf => (simp only [go_sem] <;> with_reducible rfl)))
      | (apply aL_pure cxG (hdo); (case hg => (simp (disch := first | omega | (simp only [go_sem]; omega)) only [go_sem, get_miss, seval, reduceCtorEq, eq_self_iff_true, decide_true, decide_false, Bool.not_true, Bool.not_false, Int.reduceEq, bne_self_eq_false, not_false_eq_true, not_true_eq_false])); (case hx => (simp (disch := first | omega | (simp only [go_sem]; omega)) only [go_sem, get_miss, seval, reduceCtorEq, eq_self_iff_true, decide_true, decide_false, Bool.not_true, Bool.not_false, Int.reduceEq, bne_self_eq_false, not_false_eq_true, not_true_eq_false] <;> with_reducible rfl)); (case ha => (simp (disch := first | omega | (simp only [go_sem]; omega)) only [go_sem, get_miss, seval, reduceCtorEq, eq_self_iff_true, decide_true, decide_false, Bool.not_true, Bool.not_false, Int.reduceEq, bne_self_eq_false, not_false_eq_true, not_true_eq_false] <;> with_reducible rfl)); (case he => (simp only [go_sem] <;> with_reducible rfl)); (case hcl => (simp)); (case hf => (simp only [go_sem] <;> with_reducible rfl)))
      | (apply aL_pure cxG (hn2); (case hg => (simp (disch := first | omega | (simp only [go_sem]; omega)) only [go_sem, get_miss, seval, reduceCtorEq, eq_self_iff_true, decide_true, decide_false, Bool.not_true, Bool.not_false, Int.reduceEq, bne_self_eq_false, not_false_eq_true, not_true_eq_false])); (case hx => (simp (disch := first | omega | (simp only [go_sem]; omega)) only [go_sem, get_miss, seval, reduceCtorEq, eq_self_iff_true, decide_true, decide_false, Bool.not_true, Bool.not_false, Int.reduceEq, bne_self_eq_false, not_false_eq_true, not_true_eq_false] <;> with_reducible rfl)); (case ha => (simp (disch := first | omega | (simp only [go_sem]; omega)) only [go_sem, get_miss, seval, reduceCtorEq, eq_self_iff_true, decide_true, decide_false, Bool.not_true, Bool.not_false, Int.reduceEq, bne_self_eq_false, not_false_eq_true, not_true_eq_false] <;> with_reducible rfl)); (case he => (simp only [go_sem] <;> with_reducible rfl)); (case hcl => (simp)); (case hf => (simp only [go_sem] <;> with_reducible rfl)))
      | fail)
    · refine loop_rule (cxOk.wp _ _) (σ := Nat × Nat) (fun x => [(20, .int .i64 x.1), (19, .int .i64 x.2), (17, .ptr 2 0), (5, .ptr 1 0), (3, .sl 1 nl (wl l) .any)]) (fun _ => [.cells [.int .i64 op, .int .i64 d, .int .i64 a, .int .i64 b, .int .i64 imm] 26, .cells (ws L) 38, .cells (ws L') 38, .cells [.int .i64 k1, .int .i64 k2] 41])
        (fun x => 8 - x.1) (fun x => x.1 ≤ 8 ∧ (x.2 = 0 ∨ (x.2 = 1 ∧ d < x.1))) (0, 0) (GStep.refl _ _) ⟨⟨by omega, .inl rfl⟩, Sub.of_all (by simp [Fr.get]), rfl⟩ ?_
      rintro ⟨k, n⟩ ⟨hk, hj⟩
      simp only at hk hj ⊢
      by_cases hlt : k < 8
      · obtain ⟨r1, r2⟩ := round k n hlt hj
        clear round hkeep hdo
        by_cases hxy : L'.getD k 0 = L.getD k 0
        · have hj' := r1 hxy
          clear r1 r2
          repeat' (first
            | refine aC_seq ?_
            | refine aC_reg rfl ?_
            | refine aC_block ?_
            | refine aC_skip ?_
            | refine aC_loop ?_
            | refine aC_scope ?_
            | refine scopeQ_normal ?_
            | refine scopeQ_exit ?_
            | refine scopeQ_ret ?_
            | refine aC_exit ?_
            | refine aC_ret ?_
            | refine thenQ_normal ?_
            | refine blockQ_normal ?_
            | refine thenQ_ret ?_
            | refine blockQ_ret ?_
            | refine thenQ_exit ?_
            | refine blockQ_hit ?_
            | refine blockQ_miss rfl ?_
            | refine aL_nil ?_
            | (apply aL_step; (· exact True.intro); (· simp (disch := first | omega | (simp only [go_sem]; omega)) only [go_sem, get_miss, seval, reduceCtorEq, hxy, eq_self_iff_true, decide_true, decide_false, Bool.not_true, Bool.not_false, Int.reduceEq, bne_self_eq_false, not_false_eq_true, not_true_eq_false]); (· simp (disch := first | omega | (simp only [go_sem]; omega)) only [go_sem, get_miss, seval, reduceCtorEq, hxy, eq_self_iff_true, decide_true, decide_false, Bool.not_true, Bool.not_false, Int.reduceEq, bne_self_eq_false, not_false_eq_true, not_true_eq_false] <;> with_reducible rfl); (· simp only [go_sem] <;> with_reducible rfl))
            | (refine aL_skip ?_ (by simp only [go_sem] <;> with_reducible rfl) ?_; (· simp (disch := first | omega | (simp only [go_sem]; omega)) only [go_sem, get_miss, seval, reduceCtorEq, hxy, eq_self_iff_true, decide_true, decide_false, Bool.not_true, Bool.not_false, Int.reduceEq, bne_self_eq_false, not_false_eq_true, not_true_eq_false]))
            | (apply aL_guardN; (· simp (disch := first | omega | (simp only [go_sem]; omega)) only [go_sem, get_miss, seval, reduceCtorEq, hxy, eq_self_iff_true, decide_true, decide_false, Bool.not_true, Bool.not_false, Int.reduceEq, bne_self_eq_false, not_false_eq_true, not_true_eq_false] <;> with_reducible rfl); all_goals (intro h; first | (exfalso; omega) | (simp only [h, decide_true, decide_false, not_true, not_false_iff])))
            | (apply aL_guardP; (· simp (disch := first | omega | (simp only [go_sem]; omega)) only [go_sem, get_miss, seval, reduceCtorEq, hxy, eq_self_iff_true, decide_true, decide_false, Bool.not_true, Bool.not_false, Int.reduceEq, bne_self_eq_false, not_false_eq_true, not_true_eq_false] <;> with_reducible rfl); all_goals (intro h; first | (exfalso; omega) | (simp only [h, decide_true, decide_false, not_true, not_false_iff])))
            | (refine aC_condT ?_ ?_; (· simp (disch := first | omega | (simp only [go_sem]; omega)) only [go_sem, get_miss, seval, reduceCtorEq, hxy, eq_self_iff_true, decide_true, decide_false, Bool.not_true, Bool.not_false, Int.reduceEq, bne_self_eq_false, not_false_eq_true, not_true_eq_false]))
            | (refine aC_condF ?_ ?_; (· simp (disch := first | omega | (simp only [go_sem]; omega)) only [go_sem, get_miss, seval, reduceCtorEq, hxy, eq_self_iff_true, decide_true, decide_false, Bool.not_true, Bool.not_false, Int.reduceEq, bne_self_eq_false, not_false_eq_true, not_true_eq_false]))
            | (refine aC_condP (by simp (disch := first | omega | (simp only [go_sem]; omega)) only [go_sem, get_miss, seval, reduceCtorEq, hxy, eq_self_iff_true, decide_true, decide_false, Bool.not_true, Bool.not_false, Int.reduceEq, bne_self_eq_false, not_false_eq_true, not_true_eq_false] <;> with_reducible rfl) ?_ ?_ <;> (intro h; first | (exfalso; omega) | skip))
            | fail)
          all_goals try (first | exact True.intro | omega)
          all_goals try (simp (disch := first | omega | (simp only [go_sem]; omega)) only [go_sem, get_miss, seval, reduceCtorEq] <;> first | exact True.intro | omega)
          all_goals first | trivial | exact ⟨(k + 1, n), ⟨by simp; omega, hj'⟩, Sub.of_all (by simp [Fr.get]), rfl, by simp; omega⟩ | omega
        · obtain ⟨rfl, hj'⟩ := r2 hxy
          clear r1 r2
          repeat' (first
            | refine aC_seq ?_
            | refine aC_reg rfl ?_
            | refine aC_block ?_
            | refine aC_skip ?_
            | refine aC_loop ?_
            | refine aC_scope ?_
            | refine scopeQ_normal ?_
            | refine scopeQ_exit ?_
            | refine scopeQ_ret ?_
            | refine aC_exit ?_
            | refine aC_ret ?_
            | refine thenQ_normal ?_
            | refine blockQ_normal ?_
            | refine thenQ_ret ?_
            | refine blockQ_ret ?_
            | refine thenQ_exit ?_
            | refine blockQ_hit ?_
            | refine blockQ_miss rfl ?_
            | refine aL_nil ?_
            | (apply aL_step; (· exact True.intro); (· simp (disch := first | omega | (simp only [go_sem]; omega)) only [go_sem, get_miss, seval, reduceCtorEq, hxy, eq_self_iff_true, decide_true, decide_false, Bool.not_true, Bool.not_false, Int.reduceEq, bne_self_eq_false, not_false_eq_true, not_true_eq_false]); (· simp (disch := first | omega | (simp only [go_sem]; omega)) only [go_sem, get_miss, seval, reduceCtorEq, hxy, eq_self_iff_true, decide_true, decide_false, Bool.not_true, Bool.not_false, Int.reduceEq, bne_self_eq_false, not_false_eq_true, not_true_eq_false] <;> with_reducible rfl); (· simp only [go_sem] <;> with_reducible rfl))
            | (refine aL_skip ?_ (by simp only [go_sem] <;> with_reducible rfl) ?_; (· simp (disch := first | omega | (simp only [go_sem]; omega)) only [go_sem, get_miss, seval, reduceCtorEq, hxy, eq_self_iff_true, decide_true, decide_false, Bool.not_true, Bool.not_false, Int.reduceEq, bne_self_eq_false, not_false_eq_true, not_true_eq_false]))
            | (apply aL_guardN; (· simp (disch := first | omega | (simp only [go_sem]; omega)) only [go_sem, get_miss, seval, reduceCtorEq, hxy, eq_self_iff_true, decide_true, decide_false, Bool.not_true, Bool.not_false, Int.reduceEq, bne_self_eq_false, not_false_eq_true, not_true_eq_false] <;> with_reducible rfl); all_goals (intro h; first | (exfalso; omega) | (simp only [h, decide_true, decide_false, not_true, not_false_iff])))
            | (apply aL_guardP; (· simp (disch := first | omega | (simp only [go_sem]; omega)) only [go_sem, get_miss, seval, reduceCtorEq, hxy, eq_self_iff_true, decide_true, decide_false, Bool.not_true, Bool.not_false, Int.reduceEq, bne_self_eq_false, not_false_eq_true, not_true_eq_false] <;> with_reducible rfl); all_goals (intro h; first | (exfalso; omega) | (simp only [h, decide_true, decide_false, not_true, not_false_iff])))
            | (refine aC_condT ?_ ?_; (· simp (disch := first | omega | (simp only [go_sem]; omega)) only [go_sem, get_miss, seval, reduceCtorEq, hxy, eq_self_iff_true, decide_true, decide_false, Bool.not_true, Bool.not_false, Int.reduceEq, bne_self_eq_false, not_false_eq_true, not_true_eq_false]))
            | (refine aC_condF ?_ ?_; (· simp (disch := first | omega | (simp only [go_sem]; omega)) only [go_sem, get_miss, seval, reduceCtorEq, hxy, eq_self_iff_true, decide_true, decide_false, Bool.not_true, Bool.not_false, Int.reduceEq, bne_self_eq_false, not_false_eq_true, not_true_eq_false]))
            | (refine aC_condP (by simp (disch := first | omega | (simp only [go_sem]; omega)) only [go_sem, get_miss, seval, reduceCtorEq, hxy, eq_self_iff_true, decide_true, decide_false, Bool.not_true, Bool.not_false, Int.reduceEq, bne_self_eq_false, not_false_eq_true, not_true_eq_false] <;> with_reducible rfl) ?_ ?_ <;> (intro h; first | (exfalso; omega) | skip))
            | fail)
          all_goals try (first | exact True.intro | omega)
          all_goals try (simp (disch := first | omega | (simp only [go_sem]; omega)) only [go_sem, get_miss, seval, reduceCtorEq] <;> first | exact True.intro | omega)
          all_goals first | trivial | exact ⟨(k + 1, 1), ⟨by simp; omega, .inr ⟨rfl, hj'⟩⟩, Sub.of_all (by simp [Fr.get]), rfl, by simp; omega⟩ | omega
      · have hk8 : k = 8 := by omega
        subst hk8
        clear round hkeep hdo
        have hn1 : n ≤ 1 := by omega
        by_cases h600 : l.length ≤ 600
        · obtain ⟨t, e, hls, hcase⟩ := list_back nl l hlw h600 hn
          have hsm := law_same l.isEmpty nl l l (by omega) (by omega)
          rw [decide_eq_true rfl] at hsm
          rcases hcase with (rfl | rfl) | ⟨rfl, hpr⟩
          all_goals
          repeat' (first
            | refine aC_seq ?_
            | refine aC_reg rfl ?_
            | refine aC_block ?_
            | refine aC_skip ?_
            | refine aC_loop ?_
            | refine aC_scope ?_
            | refine scopeQ_normal ?_
            | refine scopeQ_exit ?_
            | refine scopeQ_ret ?_
            | refine aC_exit ?_
            | refine aC_ret ?_
            | refine thenQ_normal ?_
            | refine blockQ_normal ?_
            | refine thenQ_ret ?_
            | refine blockQ_ret ?_
            | refine thenQ_exit ?_
            | refine blockQ_hit ?_
            | refine blockQ_miss rfl ?_
            | refine aL_nil ?_
            | (apply aL_step; (· exact True.intro); (· simp (disch := first | omega | (simp only [go_sem]; omega)) only [go_sem, get_miss, seval, reduceCtorEq, eq_self_iff_true, decide_true, decide_false, Bool.not_true, Bool.not_false, Int.reduceEq, bne_self_eq_false, not_false_eq_true, not_true_eq_false]); (· simp (disch := first | omega | (simp only [go_sem]; omega)) only [go_sem, get_miss, seval, reduceCtorEq, eq_self_iff_true, decide_true, decide_false, Bool.not_true, Bool.not_false, Int.reduceEq, bne_self_eq_false, not_false_eq_true, not_true_eq_false] <;> with_reducible rfl); (· simp only [go_sem] <;> with_reducible rfl))
            | (refine aL_skip ?_ (by simp only [go_sem] <;> with_reducible rfl) ?_; (· simp (disch := first | omega | (simp only [go_sem]; omega)) only [go_sem, get_miss, seval, reduceCtorEq, eq_self_iff_true, decide_true, decide_false, Bool.not_true, Bool.not_false, Int.reduceEq, bne_self_eq_false, not_false_eq_true, not_true_eq_false]))
            | (apply aL_guardN; (· simp (disch := first | omega | (simp only [go_sem]; omega)) only [go_sem, get_miss, seval, reduceCtorEq, eq_self_iff_true, decide_true, decide_false, Bool.not_true, Bool.not_false, Int.reduceEq, bne_self_eq_false, not_false_eq_true, not_true_eq_false] <;> with_reducible rfl); all_goals (intro h; first | (exfalso; omega) | (simp only [h, decide_true, decide_false, not_true, not_false_iff])))
            | (apply aL_guardP; (· simp (disch := first | omega | (simp only [go_sem]; omega)) only [go_sem, get_miss, seval, reduceCtorEq, eq_self_iff_true, decide_true, decide_false, Bool.not_true, Bool.not_false, Int.reduceEq, bne_self_eq_false, not_false_eq_true, not_true_eq_false] <;> with_reducible rfl); all_goals (intro h; first | (exfalso; omega) | (simp only [h, decide_true, decide_false, not_true, not_false_iff])))
            | (refine aC_condT ?_ ?_; (· simp (disch := first | omega | (simp only [go_sem]; omega)) only [go_sem, get_miss, seval, reduceCtorEq, eq_self_iff_true, decide_true, decide_false, Bool.not_true, Bool.not_false, Int.reduceEq, bne_self_eq_false, not_false_eq_true, not_true_eq_false]))
            | (refine aC_condF ?_ ?_; (· simp (disch := first | omega | (simp only [go_sem]; omega)) only [go_sem, get_miss, seval, reduceCtorEq, eq_self_iff_true, decide_true, decide_false, Bool.not_true, Bool.not_false, Int.reduceEq, bne_self_eq_false, not_false_eq_true, not_true_eq_false]))
            | (refine aC_condP (by simp (disch := first | omega | (simp only [go_sem]; omega)) only [go_sem, get_miss, seval, reduceCtorEq, eq_self_iff_true, decide_true, decide_false, Bool.not_true, Bool.not_false, Int.reduceEq, bne_self_eq_false, not_false_eq_true, not_true_eq_false] <;> with_reducible rfl) ?_ ?_ <;> (intro h; first | (exfalso; omega) | skip))
            | (apply aL_pure cxG (hls); (case hg => (simp (disch := first | omega | (simp only [go_sem]; omega)) only [go_sem, get_miss, seval, reduceCtorEq, eq_self_iff_true, decide_true, decide_false, Bool.not_true, Bool.not_false, Int.reduceEq, bne_self_eq_false, not_false_eq_true, not_true_eq_false])); (case hx => (simp (disch := first | omega | (simp only [go_sem]; omega)) only [go_sem, get_miss, seval, reduceCtorEq, eq_self_iff_true, decide_true, decide_false, Bool.not_true, Bool.not_false, Int.reduceEq, bne_self_eq_false, not_false_eq_true, not_true_eq_false] <;> with_reducible rfl)); (case ha => (simp (disch := first | omega | (simp only [go_sem]; omega)) only [go_sem, get_miss, seval, reduceCtorEq, eq_self_iff_true, decide_true, decide_false, Bool.not_true, Bool.not_false, Int.reduceEq, bne_self_eq_false, not_false_eq_true, not_true_eq_false] <;> with_reducible rfl)); (case he => (simp only [go_sem] <;> with_reducible rfl)); (case hcl => (simp)); (case hf => (simp only [go_sem] <;> with_reducible rfl)))
            | (apply aL_pure cxG (hn0); (case hg => (simp (disch := first | omega | (simp only [go_sem]; omega)) only [go_sem, get_miss, seval, reduceCtorEq, eq_self_iff_true, decide_true, decide_false, Bool.not_true, Bool.not_false, Int.reduceEq, bne_self_eq_false, not_false_eq_true, not_true_eq_false])); (case hx => (simp (disch := first | omega | (simp only [go_sem]; omega)) only [go_sem, get_miss, seval, reduceCtorEq, eq_self_iff_true, decide_true, decide_false, Bool.not_true, Bool.not_false, Int.reduceEq, bne_self_eq_false, not_false_eq_true, not_true_eq_false] <;> with_reducible rfl)); (case ha => (simp (disch := first | omega | (simp only [go_sem]; omega)) only [go_sem, get_miss, seval, reduceCtorEq, eq_self_iff_true, decide_true, decide_false, Bool.not_true, Bool.not_false, Int.reduceEq, bne_self_eq_false, not_false_eq_true, not_true_eq_false] <;> with_reducible rfl)); (case he => (simp only [go_sem] <;> with_reducible rfl)); (case hcl => (simp)); (case hf => (simp only [go_sem] <;> with_reducible rfl)))
            | (apply aL_pure cxG (hn3); (case hg => (simp (disch := first | omega | (simp only [go_sem]; omega)) only [go_sem, get_miss, seval, reduceCtorEq, eq_self_iff_true, decide_true, decide_false, Bool.not_true, Bool.not_false, Int.reduceEq, bne_self_eq_false, not_false_eq_true, not_true_eq_false])); (case hx => (simp (disch := first | omega | (simp only [go_sem]; omega)) only [go_sem, get_miss, seval, reduceCtorEq, eq_self_iff_true, decide_true, decide_false, Bool.not_true, Bool.not_false, Int.reduceEq, bne_self_eq_false, not_false_eq_true, not_true_eq_false] <;> with_reducible rfl)); (case ha => (simp (disch := first | omega | (simp only [go_sem]; omega)) only [go_sem, get_miss, seval, reduceCtorEq, eq_self_iff_true, decide_true, decide_false, Bool.not_true, Bool.not_false, Int.reduceEq, bne_self_eq_false, not_false_eq_true, not_true_eq_false] <;> with_reducible rfl)); (case he => (simp only [go_sem] <;> with_reducible rfl)); (case hcl => (simp)); (case hf => (simp only [go_sem] <;> with_reducible rfl)))
            | (apply aL_pure cxG (hn4); (case hg => (simp (disch := first | omega | (simp only [go_sem]; omega)) only [go_sem, get_miss, seval, reduceCtorEq, eq_self_iff_true, decide_true, decide_false, Bool.not_true, Bool.not_false, Int.reduceEq, bne_self_eq_false, not_false_eq_true, not_true_eq_false])); (case hx => (simp (disch := first | omega | (simp only [go_sem]; omega)) only [go_sem, get_miss, seval, reduceCtorEq, eq_self_iff_true, decide_true, decide_false, Bool.not_true, Bool.not_false, Int.reduceEq, bne_self_eq_false, not_false_eq_true, not_true_eq_false] <;> with_reducible rfl)); (case ha => (simp (disch := first | omega | (simp only [go_sem]; omega)) only [go_sem, get_miss, seval, reduceCtorEq, eq_self_iff_true, decide_true, decide_false, Bool.not_true, Bool.not_false, Int.reduceEq, bne_self_eq_false, not_false_eq_true, not_true_eq_false] <;> with_reducible rfl)); (case he => (simp only [go_sem] <;> with_reducible rfl)); (case hcl => (simp)); (case hf => (simp only [go_sem] <;> with_reducible rfl)))
            | (apply aL_pure cxG (hpr); (case hg => (simp (disch := first | omega | (simp only [go_sem]; omega)) only [go_sem, get_miss, seval, reduceCtorEq, eq_self_iff_true, decide_true, decide_false, Bool.not_true, Bool.not_false, Int.reduceEq, bne_self_eq_false, not_false_eq_true, not_true_eq_false])); (case hx => (simp (disch := first | omega | (simp only [go_sem]; omega)) only [go_sem, get_miss, seval, reduceCtorEq, eq_self_iff_true, decide_true, decide_false, Bool.not_true, Bool.not_false, Int.reduceEq, bne_self_eq_false, not_false_eq_true, not_true_eq_false] <;> with_reducible rfl)); (case ha => (simp (disch := first | omega | (simp only [go_sem]; omega)) only [go_sem, get_miss, seval, reduceCtorEq, eq_self_iff_true, decide_true, decide_false, Bool.not_true, Bool.not_false, Int.reduceEq, bne_self_eq_false, not_false_eq_true, not_true_eq_false] <;> with_reducible rfl)); (case he => (simp only [go_sem] <;> with_reducible rfl)); (case hcl => (simp)); (case hf => (simp only [go_sem] <;> with_reducible rfl)))
            | (apply aL_pure cxG (hsm); (case hg => (simp (disch := first | omega | (simp only [go_sem]; omega)) only [go_sem, get_miss, seval, reduceCtorEq, eq_self_iff_true, decide_true, decide_false, Bool.not_true, Bool.not_false, Int.reduceEq, bne_self_eq_false, not_false_eq_true, not_true_eq_false])); (case hx => (simp (disch := first | omega | (simp only [go_sem]; omega)) only [go_sem, get_miss, seval, reduceCtorEq, eq_self_iff_true, decide_true, decide_false, Bool.not_true, Bool.not_false, Int.reduceEq, bne_self_eq_false, not_false_eq_true, not_true_eq_false] <;> with_reducible rfl)); (case ha => (simp (disch := first | omega | (simp only [go_sem]; omega)) only [go_sem, get_miss, seval, reduceCtorEq, eq_self_iff_true, decide_true, decide_false, Bool.not_true, Bool.not_false, Int.reduceEq, bne_self_eq_false, not_false_eq_true, not_true_eq_false] <;> with_reducible rfl)); (case he => (simp only [go_sem] <;> with_reducible rfl)); (case hcl => (simp)); (case hf => (simp only [go_sem] <;> with_reducible rfl)))
            | fail)
          all_goals try (first | exact True.intro | omega)
          all_goals try (simp (disch := first | omega | (simp only [go_sem]; omega)) only [go_sem, get_miss, seval, reduceCtorEq] <;> first | exact True.intro | omega)
          all_goals (clear hsm hls hn0 hn2 hn3 hn4)
          all_goals try (simp (disch := first | omega | (simp only [go_sem]; omega)) only [go_sem, get_miss, seval, reduceCtorEq])
          all_goals try simp
        · repeat' (first
            | refine aC_seq ?_
            | refine aC_reg rfl ?_
            | refine aC_block ?_
            | refine aC_skip ?_
            | refine aC_loop ?_
            | refine aC_scope ?_
            | refine scopeQ_normal ?_
            | refine scopeQ_exit ?_
            | refine scopeQ_ret ?_
            | refine aC_exit ?_
            | refine aC_ret ?_
            | refine thenQ_normal ?_
            | refine blockQ_normal ?_
            | refine thenQ_ret ?_
            | refine blockQ_ret ?_
            | refine thenQ_exit ?_
            | refine blockQ_hit ?_
            | refine blockQ_miss rfl ?_
            | refine aL_nil ?_
            | (apply aL_step; (· exact True.intro); (· simp (disch := first | omega | (simp only [go_sem]; omega)) only [go_sem, get_miss, seval, reduceCtorEq]); (· simp (disch := first | omega | (simp only [go_sem]; omega)) only [go_sem, get_miss, seval, reduceCtorEq] <;> with_reducible rfl); (· simp only [go_sem] <;> with_reducible rfl))
            | (refine aL_skip ?_ (by simp only [go_sem] <;> with_reducible rfl) ?_; (· simp (disch := first | omega | (simp only [go_sem]; omega)) only [go_sem, get_miss, seval, reduceCtorEq]))
            | (apply aL_guardN; (· simp (disch := first | omega | (simp only [go_sem]; omega)) only [go_sem, get_miss, seval, reduceCtorEq] <;> with_reducible rfl); all_goals (intro h; first | (exfalso; omega) | (simp only [h, decide_true, decide_false, not_true, not_false_iff])))
            | (apply aL_guardP; (· simp (disch := first | omega | (simp only [go_sem]; omega)) only [go_sem, get_miss, seval, reduceCtorEq] <;> with_reducible rfl); all_goals (intro h; first | (exfalso; omega) | (simp only [h, decide_true, decide_false, not_true, not_false_iff])))
            | (refine aC_condT ?_ ?_; (· simp (disch := first | omega | (simp only [go_sem]; omega)) only [go_sem, get_miss, seval, reduceCtorEq]))
            | (refine aC_condF ?_ ?_; (· simp (disch := first | omega | (simp only [go_sem]; omega)) only [go_sem, get_miss, seval, reduceCtorEq]))
            | (refine aC_condP (by simp (disch := first | omega | (simp only [go_sem]; omega)) only [go_sem, get_miss, seval, reduceCtorEq] <;> with_reducible rfl) ?_ ?_ <;> (intro h; first | (exfalso; omega) | skip))
            | fail)
          all_goals try (first | exact True.intro | omega)
          all_goals try (simp (disch := first | omega | (simp only [go_sem]; omega)) only [go_sem, get_miss, seval, reduceCtorEq] <;> first | exact True.intro | omega)
          all_goals try (simp (disch := first | omega | (simp only [go_sem]; omega)) only [go_sem, get_miss, seval, reduceCtorEq])
          all_goals try simp
    all_goals first | trivial | omega | exact ⟨by kernel_rfl, by kernel_rfl⟩
end Go.Am
