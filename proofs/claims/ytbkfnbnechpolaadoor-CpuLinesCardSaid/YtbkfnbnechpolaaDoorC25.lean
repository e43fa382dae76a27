/- cpu.untext: the instruction of a text, by the table. -/
import Derived.Test.YtbkfnbnechpolaaDoorC22
import Derived.Test.YtbkfnbnechpolaaDoorC24
import Derived.Test.YtbkfnbnechpolaaDoorAmWalkD
import Derived.Lib.ParseIntBCases
import Derived.Lib.CountLaws
section
set_option linter.unusedVariables false
set_option linter.unusedSimpArgs false
namespace Go.Am
open Go Go.Proofs
set_option linter.unusedSimpArgs false
set_option linter.unusedVariables false
set_option maxHeartbeats 8000000
set_option maxRecDepth 100000
attribute [local irreducible] aC aL thenQ blockQ scopeQ ALoop AWp

theorem forms_mem {e : AVal × AVal} (h : e ∈ FORMS) : ∃ op : Int, (1 ≤ op ∧ op ≤ 17) ∧ e = (.int .i64 op, .agg [.str (frm op).1, .str (frm op).2]) := by
  unfold FORMS at h
  simp only [List.mem_cons, List.not_mem_nil, or_false] at h
  rcases h with h | h | h | h | h | h | h | h | h | h | h | h | h | h | h | h | h <;> subst h
  · exact ⟨1, by decide, rfl⟩
  · exact ⟨2, by decide, rfl⟩
  · exact ⟨3, by decide, rfl⟩
  · exact ⟨11, by decide, rfl⟩
  · exact ⟨12, by decide, rfl⟩
  · exact ⟨13, by decide, rfl⟩
  · exact ⟨14, by decide, rfl⟩
  · exact ⟨15, by decide, rfl⟩
  · exact ⟨16, by decide, rfl⟩
  · exact ⟨17, by decide, rfl⟩
  · exact ⟨4, by decide, rfl⟩
  · exact ⟨5, by decide, rfl⟩
  · exact ⟨6, by decide, rfl⟩
  · exact ⟨7, by decide, rfl⟩
  · exact ⟨8, by decide, rfl⟩
  · exact ⟨9, by decide, rfl⟩
  · exact ⟨10, by decide, rfl⟩

theorem forms_has {op : Int} (h : 1 ≤ op ∧ op ≤ 17) : ((.int .i64 op, .agg [.str (frm op).1, .str (frm op).2]) : AVal × AVal) ∈ FORMS := by
  rcases ops_cases op with (rfl | rfl | rfl | rfl | rfl | rfl | rfl | rfl | rfl | rfl | rfl | rfl | rfl | rfl | rfl | rfl | rfl) | h'
  iterate 17 (simp only [FORMS, fm, frm, List.mem_cons]; simp)
  omega

theorem frm_fin : ∀ i j : Fin 17, (frm ((i.val : Int) + 1)).1 = (frm ((j.val : Int) + 1)).1 → i = j := by decide +kernel
theorem frm_inj {a b : Int} (ha : 1 ≤ a ∧ a ≤ 17) (hb : 1 ≤ b ∧ b ≤ 17) (h : (frm a).1 = (frm b).1) : a = b := by
  have := frm_fin ⟨(a - 1).toNat, by omega⟩ ⟨(b - 1).toNat, by omega⟩ (by
    rw [show (((a - 1).toNat : Nat) : Int) + 1 = a by omega, show (((b - 1).toNat : Nat) : Int) + 1 = b by omega]; exact h)
  have := congrArg Fin.val this
  simp only at this
  omega

/-- What the parts of a text say, of a form. -/
def stepI (q : Int × Int × Int × Int) (c : UInt8) (n : Int) : Int × Int × Int × Int :=
  if c = 100 then (n, q.2.1, q.2.2.1, q.2.2.2) else if c = 97 then (q.1, n, q.2.2.1, q.2.2.2) else if c = 98 then (q.1, q.2.1, n, q.2.2.2) else (q.1, q.2.1, q.2.2.1, n)
def insK (ws : List (List UInt8)) (p : List UInt8) : Nat → Int × Int × Int × Int
  | 0 => (0, 0, 0, 0)
  | k + 1 => stepI (insK ws p k) (p.getD k 0) (numP (Lib.trimPrefix (ws.getD (1 + k) []) [114]))
theorem bels_str (n : Nat) (ws : List (List UInt8)) : bels n (ws.map AVal.str) = true :=
  bels_iff.2 (by intro x hx; obtain ⟨y, _, rfl⟩ := List.mem_map.1 hx; rfl)

theorem untext_miss (s : List UInt8) (hs : s.length ≤ 20000) (w0 : List UInt8) (wr : List (List UInt8)) (hw : parts s [32] = w0 :: wr) (hwl : wr.length ≤ 20000) (hm : ∀ op : Int, 1 ≤ op ∧ op ≤ 17 → ¬ ((frm op).1 = w0 ∧ wr.length = (frm op).2.length)) :
    ACall cx 31 [.str s, .map 0] [.mpx FORMS 17] (.tup [.agg [.int .i64 0, .int .i64 0, .int .i64 0, .int .i64 0, .int .i64 0], .bool false]) [.mpx FORMS 17] := by
  have hsp := a_split s [32] (by omega) (by decide)
  rw [hw] at hsp
  simp only [List.map_cons] at hsp
  have hml : maxLen = 9223372036854775807 := rfl
  have key : ACall cx 31 [.str s, .map 0] [.mpx FORMS 17] (.tup [.agg [.int .i64 0, .int .i64 0, .int .i64 0, .int .i64 0, .int .i64 0], .bool false])
      [.mpx FORMS 17, .cells [.int .i64 0, .int .i64 0, .int .i64 0, .int .i64 0, .int .i64 0] 26, .frz none] := by
    refine acall_fn cxOk Tryd.func31 (by kernel_rfl) (fun _ => false) (fe31.q) (by kernel_rfl) (Nat.le_of_ble_eq_true (by kernel_rfl)) ?_
    dsimp only [LB, Tryd.f31, lite, nextOf, Option.isNone, Bool.not_true, Bool.not_false, Bool.and_true, Bool.true_and, Bool.false_and, Bool.and_self, Bool.false_eq_true, if_false, if_true, ↓reduceIte, liteO, List.map, Option.map, frame0, List.zipIdx, Nat.reduceAdd]
    try simp only [List.getElem?_toArray, List.getElem?_cons_succ, List.getElem?_cons_zero, Option.bind_some]
    repeat' (first
      | refine aC_seq ?_
      | refine aC_reg rfl ?_
      | refine aC_block ?_
      | refine aC_skip ?_
      | refine aC_loop ?_
      | refine aC_scope ?_
      | refine scopeQ_normal ?_
      | refine scopeQ_exit ?_
      | refine scopeQ_ret ?_
      | refine aC_exit ?_
      | refine aC_ret ?_
      | refine thenQ_normal ?_
      | refine blockQ_normal ?_
      | refine thenQ_ret ?_
      | refine blockQ_ret ?_
      | refine thenQ_exit ?_
      | refine blockQ_hit ?_
      | refine blockQ_miss rfl ?_
      | refine aL_nil ?_
      | (apply aL_step; (· exact True.intro); (· simp (disch := first | omega | (simp only [go_sem]; omega)) only [go_sem, get_miss, seval, reduceCtorEq, aStep_rangeS, aRange]); (· simp (disch := first | omega | (simp only [go_sem]; omega)) only [go_sem, get_miss, seval, reduceCtorEq, aStep_rangeS, aRange] <;> with_reducible rfl); (· simp only [go_sem] <;> with_reducible rfl))
      | (refine aL_skip ?_ (by simp only [go_sem] <;> with_reducible rfl) ?_; (· simp (disch := first | omega | (simp only [go_sem]; omega)) only [go_sem, get_miss, seval, reduceCtorEq, aStep_rangeS, aRange]))
      | (apply aL_guardN; (· simp (disch := first | omega | (simp only [go_sem]; omega)) only [go_sem, get_miss, seval, reduceCtorEq, aStep_rangeS, aRange] <;> with_reducible rfl); all_goals (intro h; first | (exfalso; omega) | (simp only [h, decide_true, decide_false, not_true, not_false_iff])))
      | (apply aL_guardP; (· simp (disch := first | omega | (simp only [go_sem]; omega)) only [go_sem, get_miss, seval, reduceCtorEq, aStep_rangeS, aRange] <;> with_reducible rfl); all_goals (intro h; first | (exfalso; omega) | (simp only [h, decide_true, decide_false, not_true, not_false_iff])))
      | (refine aC_condT ?_ ?_; (· simp (disch := first | omega | (simp only [go_sem]; omega)) only [go_sem, get_miss, seval, reduceCtorEq, aStep_rangeS, aRange]))
      | (refine aC_condF ?_ ?_; (· simp (disch := first | omega | (simp only [go_sem]; omega)) only [go_sem, get_miss, seval, reduceCtorEq, aStep_rangeS, aRange]))
      | (refine aC_condP (by simp (disch := first | omega | (simp only [go_sem]; omega)) only [go_sem, get_miss, seval, reduceCtorEq, aStep_rangeS, aRange] <;> with_reducible rfl) ?_ ?_ <;> (intro h; first | (exfalso; omega) | skip))
      | (apply aL_pure cxG (hsp); (case hg => (simp (disch := first | omega | (simp only [go_sem]; omega)) only [go_sem, get_miss, seval, reduceCtorEq, aStep_rangeS, aRange])); (case hx => (simp (disch := first | omega | (simp only [go_sem]; omega)) only [go_sem, get_miss, seval, reduceCtorEq, aStep_rangeS, aRange] <;> with_reducible rfl)); (case ha => (simp (disch := first | omega | (simp only [go_sem]; omega)) only [go_sem, get_miss, seval, reduceCtorEq, aStep_rangeS, aRange] <;> with_reducible rfl)); (case he => (simp only [go_sem] <;> with_reducible rfl)); (case hcl => (simp)); (case hf => (simp only [go_sem] <;> with_reducible rfl)))
      | fail)
    · refine any_rule (k := 2) (mi := 0) (since := 17) (last := 17) (clock := 17) (z := .mpx FORMS 17) (ps := FORMS) (fr0 := [(6, .sl 1 false (.str w0 :: wr.map .str) .full), (16, .ptr 2 0), (4, .ptr 1 0), (0, .str s)])
        (Sf := [.frz (some FORMS), .cells [.int .i64 0, .int .i64 0, .int .i64 0, .int .i64 0, .int .i64 0] 26, .frz none]) (cxOk.wp _ _) (cxG.wp _ _) (fun _ => true) none (by intro k hk; injection hk with hk; subst hk; decide) (by intro k hk; injection hk with hk; subst hk; decide)
        (Sub.of_all (by simp [Fr.get])) rfl rfl rfl (.inl rfl) (by decide) rfl (by kernel_rfl) (by kernel_rfl) (by simp [belF, bel, bels, bels_str, belT]) ?hD (.inl rfl) ?hr (fun _ _ _ h => by cases h)
      case hD =>
        repeat' (first
          | refine aC_seq ?_
          | refine aC_reg rfl ?_
          | refine aC_block ?_
          | refine aC_skip ?_
          | refine aC_loop ?_
          | refine aC_scope ?_
          | refine scopeQ_normal ?_
          | refine scopeQ_exit ?_
          | refine scopeQ_ret ?_
          | refine aC_exit ?_
          | refine aC_ret ?_
          | refine thenQ_normal ?_
          | refine blockQ_normal ?_
          | refine thenQ_ret ?_
          | refine blockQ_ret ?_
          | refine thenQ_exit ?_
          | refine blockQ_hit ?_
          | refine blockQ_miss rfl ?_
          | refine aL_nil ?_
          | (apply aL_step; (· exact True.intro); (· simp (disch := first | omega | (simp only [go_sem]; omega)) only [go_sem, get_miss, seval, reduceCtorEq]); (· simp (disch := first | omega | (simp only [go_sem]; omega)) only [go_sem, get_miss, seval, reduceCtorEq] <;> with_reducible rfl); (· simp only [go_sem] <;> with_reducible rfl))
          | (refine aL_skip ?_ (by simp only [go_sem] <;> with_reducible rfl) ?_; (· simp (disch := first | omega | (simp only [go_sem]; omega)) only [go_sem, get_miss, seval, reduceCtorEq]))
          | (apply aL_guardN; (· simp (disch := first | omega | (simp only [go_sem]; omega)) only [go_sem, get_miss, seval, reduceCtorEq] <;> with_reducible rfl); all_goals (intro h; first | (exfalso; omega) | (simp only [h, decide_true, decide_false, not_true, not_false_iff])))
          | (apply aL_guardP; (· simp (disch := first | omega | (simp only [go_sem]; omega)) only [go_sem, get_miss, seval, reduceCtorEq] <;> with_reducible rfl); all_goals (intro h; first | (exfalso; omega) | (simp only [h, decide_true, decide_false, not_true, not_false_iff])))
          | (refine aC_condT ?_ ?_; (· simp (disch := first | omega | (simp only [go_sem]; omega)) only [go_sem, get_miss, seval, reduceCtorEq]))
          | (refine aC_condF ?_ ?_; (· simp (disch := first | omega | (simp only [go_sem]; omega)) only [go_sem, get_miss, seval, reduceCtorEq]))
          | (refine aC_condP (by simp (disch := first | omega | (simp only [go_sem]; omega)) only [go_sem, get_miss, seval, reduceCtorEq] <;> with_reducible rfl) ?_ ?_ <;> (intro h; first | (exfalso; omega) | skip))
          | fail)
        all_goals try trivial
        refine ⟨rfl, rfl, fun _ => ?_⟩
        repeat' (first
          | refine aC_seq ?_
          | refine aC_reg rfl ?_
          | refine aC_block ?_
          | refine aC_skip ?_
          | refine aC_loop ?_
          | refine aC_scope ?_
          | refine scopeQ_normal ?_
          | refine scopeQ_exit ?_
          | refine scopeQ_ret ?_
          | refine aC_exit ?_
          | refine aC_ret ?_
          | refine thenQ_normal ?_
          | refine blockQ_normal ?_
          | refine thenQ_ret ?_
          | refine blockQ_ret ?_
          | refine thenQ_exit ?_
          | refine blockQ_hit ?_
          | refine blockQ_miss rfl ?_
          | refine aL_nil ?_
          | (apply aL_step; (· exact True.intro); (· simp (disch := first | omega | (simp only [go_sem]; omega)) only [go_sem, get_miss, seval, reduceCtorEq]); (· simp (disch := first | omega | (simp only [go_sem]; omega)) only [go_sem, get_miss, seval, reduceCtorEq] <;> with_reducible rfl); (· simp only [go_sem] <;> with_reducible rfl))
          | (refine aL_skip ?_ (by simp only [go_sem] <;> with_reducible rfl) ?_; (· simp (disch := first | omega | (simp only [go_sem]; omega)) only [go_sem, get_miss, seval, reduceCtorEq]))
          | (apply aL_guardN; (· simp (disch := first | omega | (simp only [go_sem]; omega)) only [go_sem, get_miss, seval, reduceCtorEq] <;> with_reducible rfl); all_goals (intro h; first | (exfalso; omega) | (simp only [h, decide_true, decide_false, not_true, not_false_iff])))
          | (apply aL_guardP; (· simp (disch := first | omega | (simp only [go_sem]; omega)) only [go_sem, get_miss, seval, reduceCtorEq] <;> with_reducible rfl); all_goals (intro h; first | (exfalso; omega) | (simp only [h, decide_true, decide_false, not_true, not_false_iff])))
          | (refine aC_condT ?_ ?_; (· simp (disch := first | omega | (simp only [go_sem]; omega)) only [go_sem, get_miss, seval, reduceCtorEq]))
          | (refine aC_condF ?_ ?_; (· simp (disch := first | omega | (simp only [go_sem]; omega)) only [go_sem, get_miss, seval, reduceCtorEq]))
          | (refine aC_condP (by simp (disch := first | omega | (simp only [go_sem]; omega)) only [go_sem, get_miss, seval, reduceCtorEq] <;> with_reducible rfl) ?_ ?_ <;> (intro h; first | (exfalso; omega) | skip))
          | fail)
        all_goals try (first | exact True.intro | omega)
        all_goals try (simp (disch := first | omega | (simp only [go_sem]; omega)) only [go_sem, get_miss, seval, reduceCtorEq] <;> first | exact True.intro | omega)
        all_goals try (simp (disch := first | omega | (simp only [go_sem]; omega)) only [go_sem, get_miss, seval, reduceCtorEq])
        all_goals try simp
      case hr =>
        intro e he
        obtain ⟨op, ho, rfl⟩ := forms_mem he
        obtain ⟨_, hp3, _⟩ := frm_parts ho
        have hmo := hm op ho
        repeat' (first
          | refine aC_seq ?_
          | refine aC_reg rfl ?_
          | refine aC_block ?_
          | refine aC_skip ?_
          | refine aC_loop ?_
          | refine aC_scope ?_
          | refine scopeQ_normal ?_
          | refine scopeQ_exit ?_
          | refine scopeQ_ret ?_
          | refine aC_exit ?_
          | refine aC_ret ?_
          | refine thenQ_normal ?_
          | refine blockQ_normal ?_
          | refine thenQ_ret ?_
          | refine blockQ_ret ?_
          | refine thenQ_exit ?_
          | refine blockQ_hit ?_
          | refine blockQ_miss rfl ?_
          | refine aL_nil ?_
          | (apply aL_step; (· exact True.intro); (· simp (disch := first | omega | (simp only [go_sem]; omega)) only [go_sem, get_miss, seval, reduceCtorEq]); (· simp (disch := first | omega | (simp only [go_sem]; omega)) only [go_sem, get_miss, seval, reduceCtorEq] <;> with_reducible rfl); (· simp only [go_sem] <;> with_reducible rfl))
          | (refine aL_skip ?_ (by simp only [go_sem] <;> with_reducible rfl) ?_; (· simp (disch := first | omega | (simp only [go_sem]; omega)) only [go_sem, get_miss, seval, reduceCtorEq]))
          | (apply aL_guardN; (· simp (disch := first | omega | (simp only [go_sem]; omega)) only [go_sem, get_miss, seval, reduceCtorEq] <;> with_reducible rfl); all_goals (intro h; first | (exfalso; omega) | (simp only [h, decide_true, decide_false, not_true, not_false_iff])))
          | (apply aL_guardP; (· simp (disch := first | omega | (simp only [go_sem]; omega)) only [go_sem, get_miss, seval, reduceCtorEq] <;> with_reducible rfl); all_goals (intro h; first | (exfalso; omega) | (simp only [h, decide_true, decide_false, not_true, not_false_iff])))
          | (refine aC_condT ?_ ?_; (· simp (disch := first | omega | (simp only [go_sem]; omega)) only [go_sem, get_miss, seval, reduceCtorEq]))
          | (refine aC_condF ?_ ?_; (· simp (disch := first | omega | (simp only [go_sem]; omega)) only [go_sem, get_miss, seval, reduceCtorEq]))
          | (refine aC_condP (by simp (disch := first | omega | (simp only [go_sem]; omega)) only [go_sem, get_miss, seval, reduceCtorEq] <;> with_reducible rfl) ?_ ?_ <;> (intro h; first | (exfalso; omega) | skip))
          | fail)
        all_goals try trivial
        refine ⟨rfl, rfl, rfl, ?_⟩
        generalize (frm op).1 = w at hmo ⊢
        generalize (frm op).2 = p at hp3 hmo ⊢
        repeat' (first
          | refine aC_seq ?_
          | refine aC_reg rfl ?_
          | refine aC_block ?_
          | refine aC_skip ?_
          | refine aC_loop ?_
          | refine aC_scope ?_
          | refine scopeQ_normal ?_
          | refine scopeQ_exit ?_
          | refine scopeQ_ret ?_
          | refine aC_exit ?_
          | refine aC_ret ?_
          | refine thenQ_normal ?_
          | refine blockQ_normal ?_
          | refine thenQ_ret ?_
          | refine blockQ_ret ?_
          | refine thenQ_exit ?_
          | refine blockQ_hit ?_
          | refine blockQ_miss rfl ?_
          | refine aL_nil ?_
          | (apply aL_step; (· exact True.intro); (· simp (disch := first | omega | (simp only [go_sem]; omega)) only [go_sem, get_miss, seval, reduceCtorEq]); (· simp (disch := first | omega | (simp only [go_sem]; omega)) only [go_sem, get_miss, seval, reduceCtorEq] <;> with_reducible rfl); (· simp only [go_sem] <;> with_reducible rfl))
          | (refine aL_skip ?_ (by simp only [go_sem] <;> with_reducible rfl) ?_; (· simp (disch := first | omega | (simp only [go_sem]; omega)) only [go_sem, get_miss, seval, reduceCtorEq]))
          | (apply aL_guardN; (· simp (disch := first | omega | (simp only [go_sem]; omega)) only [go_sem, get_miss, seval, reduceCtorEq] <;> with_reducible rfl); all_goals (intro h; first | (exfalso; omega) | (simp only [h, decide_true, decide_false, not_true, not_false_iff])))
          | (apply aL_guardP; (· simp (disch := first | omega | (simp only [go_sem]; omega)) only [go_sem, get_miss, seval, reduceCtorEq] <;> with_reducible rfl); all_goals (intro h; first | (exfalso; omega) | (simp only [h, decide_true, decide_false, not_true, not_false_iff])))
          | (refine aC_condT ?_ ?_; (· simp (disch := first | omega | (simp only [go_sem]; omega)) only [go_sem, get_miss, seval, reduceCtorEq]))
          | (refine aC_condF ?_ ?_; (· simp (disch := first | omega | (simp only [go_sem]; omega)) only [go_sem, get_miss, seval, reduceCtorEq]))
          | (refine aC_condP (by simp (disch := first | omega | (simp only [go_sem]; omega)) only [go_sem, get_miss, seval, reduceCtorEq] <;> with_reducible rfl) ?_ ?_ <;> (intro h; first | (exfalso; omega) | skip))
          | fail)
        all_goals try trivial
        refine ⟨.ext 1, [(6, .sl 1 false (.str w0 :: wr.map .str) .full), (16, .ptr 2 0), (4, .ptr 1 0), (0, .str s)], [.frz (some FORMS), .cells [.int .i64 0, .int .i64 0, .int .i64 0, .int .i64 0, .int .i64 0] 26, .frz none, .cells [.str w, .str p] 85], ?_, .inl ⟨rfl, .inr rfl, rfl, fun _ => .inr rfl⟩⟩
        by_cases hw0 : w = w0
        · have hne : wr.length ≠ p.length := fun h => hmo ⟨hw0, h⟩
          have hb : (w == w0) = true := by simp [hw0]
          repeat' (first
            | refine aC_seq ?_
            | refine aC_reg rfl ?_
            | refine aC_block ?_
            | refine aC_skip ?_
            | refine aC_loop ?_
            | refine aC_scope ?_
            | refine scopeQ_normal ?_
            | refine scopeQ_exit ?_
            | refine scopeQ_ret ?_
            | refine aC_exit ?_
            | refine aC_ret ?_
            | refine thenQ_normal ?_
            | refine blockQ_normal ?_
            | refine thenQ_ret ?_
            | refine blockQ_ret ?_
            | refine thenQ_exit ?_
            | refine blockQ_hit ?_
            | refine blockQ_miss rfl ?_
            | refine aL_nil ?_
            | (apply aL_step; (· exact True.intro); (· simp (disch := first | omega | (simp only [go_sem]; omega)) only [go_sem, get_miss, seval, reduceCtorEq, hb]); (· simp (disch := first | omega | (simp only [go_sem]; omega)) only [go_sem, get_miss, seval, reduceCtorEq, hb] <;> with_reducible rfl); (· simp only [go_sem] <;> with_reducible rfl))
            | (refine aL_skip ?_ (by simp only [go_sem] <;> with_reducible rfl) ?_; (· simp (disch := first | omega | (simp only [go_sem]; omega)) only [go_sem, get_miss, seval, reduceCtorEq, hb]))
            | (apply aL_guardN; (· simp (disch := first | omega | (simp only [go_sem]; omega)) only [go_sem, get_miss, seval, reduceCtorEq, hb] <;> with_reducible rfl); all_goals (intro h; first | (exfalso; omega) | (simp only [h, decide_true, decide_false, not_true, not_false_iff])))
            | (apply aL_guardP; (· simp (disch := first | omega | (simp only [go_sem]; omega)) only [go_sem, get_miss, seval, reduceCtorEq, hb] <;> with_reducible rfl); all_goals (intro h; first | (exfalso; omega) | (simp only [h, decide_true, decide_false, not_true, not_false_iff])))
            | (refine aC_condT ?_ ?_; (· simp (disch := first | omega | (simp only [go_sem]; omega)) only [go_sem, get_miss, seval, reduceCtorEq, hb]))
            | (refine aC_condF ?_ ?_; (· simp (disch := first | omega | (simp only [go_sem]; omega)) only [go_sem, get_miss, seval, reduceCtorEq, hb]))
            | (refine aC_condP (by simp (disch := first | omega | (simp only [go_sem]; omega)) only [go_sem, get_miss, seval, reduceCtorEq, hb] <;> with_reducible rfl) ?_ ?_ <;> (intro h; first | (exfalso; omega) | skip))
            | fail)
          all_goals try (first | exact True.intro | omega)
          all_goals try (simp (disch := first | omega | (simp only [go_sem]; omega)) only [go_sem, get_miss, seval, reduceCtorEq] <;> first | exact True.intro | omega)
          all_goals first | exact not_false | exact ⟨rfl, Sub.of_all (by simp [Fr.get]), rfl⟩
        · have hb : (w == w0) = false := by simp [hw0]
          repeat' (first
            | refine aC_seq ?_
            | refine aC_reg rfl ?_
            | refine aC_block ?_
            | refine aC_skip ?_
            | refine aC_loop ?_
            | refine aC_scope ?_
            | refine scopeQ_normal ?_
            | refine scopeQ_exit ?_
            | refine scopeQ_ret ?_
            | refine aC_exit ?_
            | refine aC_ret ?_
            | refine thenQ_normal ?_
            | refine blockQ_normal ?_
            | refine thenQ_ret ?_
            | refine blockQ_ret ?_
            | refine thenQ_exit ?_
            | refine blockQ_hit ?_
            | refine blockQ_miss rfl ?_
            | refine aL_nil ?_
            | (apply aL_step; (· exact True.intro); (· simp (disch := first | omega | (simp only [go_sem]; omega)) only [go_sem, get_miss, seval, reduceCtorEq, hb]); (· simp (disch := first | omega | (simp only [go_sem]; omega)) only [go_sem, get_miss, seval, reduceCtorEq, hb] <;> with_reducible rfl); (· simp only [go_sem] <;> with_reducible rfl))
            | (refine aL_skip ?_ (by simp only [go_sem] <;> with_reducible rfl) ?_; (· simp (disch := first | omega | (simp only [go_sem]; omega)) only [go_sem, get_miss, seval, reduceCtorEq, hb]))
            | (apply aL_guardN; (· simp (disch := first | omega | (simp only [go_sem]; omega)) only [go_sem, get_miss, seval, reduceCtorEq, hb] <;> with_reducible rfl); all_goals (intro h; first | (exfalso; omega) | (simp only [h, decide_true, decide_false, not_true, not_false_iff])))
            | (apply aL_guardP; (· simp (disch := first | omega | (simp only [go_sem]; omega)) only [go_sem, get_miss, seval, reduceCtorEq, hb] <;> with_reducible rfl); all_goals (intro h; first | (exfalso; omega) | (simp only [h, decide_true, decide_false, not_true, not_false_iff])))
            | (refine aC_condT ?_ ?_; (· simp (disch := first | omega | (simp only [go_sem]; omega)) only [go_sem, get_miss, seval, reduceCtorEq, hb]))
            | (refine aC_condF ?_ ?_; (· simp (disch := first | omega | (simp only [go_sem]; omega)) only [go_sem, get_miss, seval, reduceCtorEq, hb]))
            | (refine aC_condP (by simp (disch := first | omega | (simp only [go_sem]; omega)) only [go_sem, get_miss, seval, reduceCtorEq, hb] <;> with_reducible rfl) ?_ ?_ <;> (intro h; first | (exfalso; omega) | skip))
            | fail)
          all_goals try (first | exact True.intro | omega)
          all_goals try (simp (disch := first | omega | (simp only [go_sem]; omega)) only [go_sem, get_miss, seval, reduceCtorEq] <;> first | exact True.intro | omega)
          all_goals first | exact not_false | exact ⟨rfl, Sub.of_all (by simp [Fr.get]), rfl⟩
    all_goals try (first | exact True.intro | omega)
    all_goals try (simp (disch := first | omega | (simp only [go_sem]; omega)) only [go_sem, get_miss, seval, reduceCtorEq] <;> first | exact True.intro | omega)
  exact ACall.drop cxG key (n := 1) (by simp) rfl (by kernel_rfl)
theorem numP_range (l : List UInt8) : -2147483648 ≤ numP l ∧ numP l ≤ 2147483647 := by
  unfold numP
  split
  · next v h =>
    have := Lib.parseIntB_bounds h
    have e : ((2 ^ (32 - 1) : Nat) : Int) = 2147483648 := by decide
    rw [e] at this
    omega
  · omega
theorem stepI_range {q : Int × Int × Int × Int} (c : UInt8) {n : Int} (hn : -2147483648 ≤ n ∧ n ≤ 2147483647) (h : (-2147483648 ≤ q.1 ∧ q.1 ≤ 2147483647) ∧ (-2147483648 ≤ q.2.1 ∧ q.2.1 ≤ 2147483647) ∧ (-2147483648 ≤ q.2.2.1 ∧ q.2.2.1 ≤ 2147483647) ∧ -2147483648 ≤ q.2.2.2 ∧ q.2.2.2 ≤ 2147483647) :
    (-2147483648 ≤ (stepI q c n).1 ∧ (stepI q c n).1 ≤ 2147483647) ∧ (-2147483648 ≤ (stepI q c n).2.1 ∧ (stepI q c n).2.1 ≤ 2147483647) ∧ (-2147483648 ≤ (stepI q c n).2.2.1 ∧ (stepI q c n).2.2.1 ≤ 2147483647) ∧ -2147483648 ≤ (stepI q c n).2.2.2 ∧ (stepI q c n).2.2.2 ≤ 2147483647 := by
  unfold stepI
  split
  · exact ⟨hn, h.2⟩
  split
  · exact ⟨h.1, hn, h.2.2⟩
  split
  · exact ⟨h.1, h.2.1, hn, h.2.2.2⟩
  · exact ⟨h.1, h.2.1, h.2.2.1, hn⟩
theorem insK_range (ws : List (List UInt8)) (p : List UInt8) : ∀ k, (-2147483648 ≤ (insK ws p k).1 ∧ (insK ws p k).1 ≤ 2147483647) ∧ (-2147483648 ≤ (insK ws p k).2.1 ∧ (insK ws p k).2.1 ≤ 2147483647) ∧ (-2147483648 ≤ (insK ws p k).2.2.1 ∧ (insK ws p k).2.2.1 ≤ 2147483647) ∧ -2147483648 ≤ (insK ws p k).2.2.2 ∧ (insK ws p k).2.2.2 ≤ 2147483647
  | 0 => by simp [insK]
  | k + 1 => stepI_range _ (numP_range _) (insK_range ws p k)

theorem untext_hit (s : List UInt8) (hs : s.length ≤ 20000) (op0 : Int) (ho0 : 1 ≤ op0 ∧ op0 ≤ 17) (wr : List (List UInt8)) (hw : parts s [32] = (frm op0).1 :: wr) (hwl : wr.length = (frm op0).2.length) (hwp : ∀ x ∈ wr, x.length ≤ 20000) (d a b i : Int)
    (acc : Bool) (hq : insK ((frm op0).1 :: wr) (frm op0).2 (frm op0).2.length = (d, a, b, i)) (hacc : acc = decide (MayF op0 d a b i (frm op0).1 (frm op0).2 ∧ txt op0 d a b i = s)) :
    ACall cx 31 [.str s, .map 0] [.mpx FORMS 17] (.tup [.agg [.int .i64 op0, .int .i64 d, .int .i64 a, .int .i64 b, .int .i64 i], .bool acc]) [.mpx FORMS 17] := by
  have hsp := a_split s [32] (by omega) (by decide)
  rw [hw] at hsp
  simp only [List.map_cons] at hsp
  have hml : maxLen = 9223372036854775807 := rfl
  obtain ⟨_, hp3, hpc⟩ := frm_parts ho0
  have key : ACall cx 31 [.str s, .map 0] [.mpx FORMS 17] (.tup [.agg [.int .i64 op0, .int .i64 d, .int .i64 a, .int .i64 b, .int .i64 i], .bool acc])
      [.mpx FORMS 17, .cells [.int .i64 op0, .int .i64 d, .int .i64 a, .int .i64 b, .int .i64 i] 26, .frz none, .cells [.str (frm op0).1, .str (frm op0).2] 85, .cells [.int .i64 op0, .int .i64 d, .int .i64 a, .int .i64 b, .int .i64 i] 26, .siter (frm op0).2 (frm op0).2.length] := by
    refine acall_fn cxOk Tryd.func31 (by kernel_rfl) (fun _ => false) (fe31.q) (by kernel_rfl) (Nat.le_of_ble_eq_true (by kernel_rfl)) ?_
    dsimp only [LB, Tryd.f31, lite, nextOf, Option.isNone, Bool.not_true, Bool.not_false, Bool.and_true, Bool.true_and, Bool.false_and, Bool.and_self, Bool.false_eq_true, if_false, if_true, ↓reduceIte, liteO, List.map, Option.map, frame0, List.zipIdx, Nat.reduceAdd]
    try simp only [List.getElem?_toArray, List.getElem?_cons_succ, List.getElem?_cons_zero, Option.bind_some]
    repeat' (first
      | refine aC_seq ?_
      | refine aC_reg rfl ?_
      | refine aC_block ?_
      | refine aC_skip ?_
      | refine aC_loop ?_
      | refine aC_scope ?_
      | refine scopeQ_normal ?_
      | refine scopeQ_exit ?_
      | refine scopeQ_ret ?_
      | refine aC_exit ?_
      | refine aC_ret ?_
      | refine thenQ_normal ?_
      | refine blockQ_normal ?_
      | refine thenQ_ret ?_
      | refine blockQ_ret ?_
      | refine thenQ_exit ?_
      | refine blockQ_hit ?_
      | refine blockQ_miss rfl ?_
      | refine aL_nil ?_
      | (apply aL_step; (· exact True.intro); (· simp (disch := first | omega | (simp only [go_sem]; omega)) only [go_sem, get_miss, seval, reduceCtorEq, aStep_rangeS, aRange]); (· simp (disch := first | omega | (simp only [go_sem]; omega)) only [go_sem, get_miss, seval, reduceCtorEq, aStep_rangeS, aRange] <;> with_reducible rfl); (· simp only [go_sem] <;> with_reducible rfl))
      | (refine aL_skip ?_ (by simp only [go_sem] <;> with_reducible rfl) ?_; (· simp (disch := first | omega | (simp only [go_sem]; omega)) only [go_sem, get_miss, seval, reduceCtorEq, aStep_rangeS, aRange]))
      | (apply aL_guardN; (· simp (disch := first | omega | (simp only [go_sem]; omega)) only [go_sem, get_miss, seval, reduceCtorEq, aStep_rangeS, aRange] <;> with_reducible rfl); all_goals (intro h; first | (exfalso; omega) | (simp only [h, decide_true, decide_false, not_true, not_false_iff])))
      | (apply aL_guardP; (· simp (disch := first | omega | (simp only [go_sem]; omega)) only [go_sem, get_miss, seval, reduceCtorEq, aStep_rangeS, aRange] <;> with_reducible rfl); all_goals (intro h; first | (exfalso; omega) | (simp only [h, decide_true, decide_false, not_true, not_false_iff])))
      | (refine aC_condT ?_ ?_; (· simp (disch := first | omega | (simp only [go_sem]; omega)) only [go_sem, get_miss, seval, reduceCtorEq, aStep_rangeS, aRange]))
      | (refine aC_condF ?_ ?_; (· simp (disch := first | omega | (simp only [go_sem]; omega)) only [go_sem, get_miss, seval, reduceCtorEq, aStep_rangeS, aRange]))
      | (refine aC_condP (by simp (disch := first | omega | (simp only [go_sem]; omega)) only [go_sem, get_miss, seval, reduceCtorEq, aStep_rangeS, aRange] <;> with_reducible rfl) ?_ ?_ <;> (intro h; first | (exfalso; omega) | skip))
      | (apply aL_pure cxG (hsp); (case hg => (simp (disch := first | omega | (simp only [go_sem]; omega)) only [go_sem, get_miss, seval, reduceCtorEq, aStep_rangeS, aRange])); (case hx => (simp (disch := first | omega | (simp only [go_sem]; omega)) only [go_sem, get_miss, seval, reduceCtorEq, aStep_rangeS, aRange] <;> with_reducible rfl)); (case ha => (simp (disch := first | omega | (simp only [go_sem]; omega)) only [go_sem, get_miss, seval, reduceCtorEq, aStep_rangeS, aRange] <;> with_reducible rfl)); (case he => (simp only [go_sem] <;> with_reducible rfl)); (case hcl => (simp)); (case hf => (simp only [go_sem] <;> with_reducible rfl)))
      | fail)
    · refine any_rule (k := 2) (mi := 0) (since := 17) (last := 17) (clock := 17) (z := .mpx FORMS 17) (ps := FORMS) (fr0 := [(6, .sl 1 false (.str (frm op0).1 :: wr.map .str) .full), (16, .ptr 2 0), (4, .ptr 1 0), (0, .str s)])
        (Sf := [.frz (some FORMS), .cells [.int .i64 0, .int .i64 0, .int .i64 0, .int .i64 0, .int .i64 0] 26, .frz none]) (cxOk.wp _ _) (cxG.wp _ _) (fun e => @decide (e.1 ≠ .int .i64 op0) (Classical.propDecidable _))
        (some (.ret, [(5, .bool acc), (4, .ptr 1 0)], [.frz (some FORMS), .cells [.int .i64 op0, .int .i64 d, .int .i64 a, .int .i64 b, .int .i64 i] 26, .frz none, .cells [.str (frm op0).1, .str (frm op0).2] 85, .cells [.int .i64 op0, .int .i64 d, .int .i64 a, .int .i64 b, .int .i64 i] 26, .siter (frm op0).2 (frm op0).2.length]))
        (by intro k hk; injection hk with hk; subst hk; decide) (by intro k hk; injection hk with hk; subst hk; decide)
        (Sub.of_all (by simp [Fr.get])) rfl rfl rfl (.inl rfl) (by decide) rfl (by kernel_rfl) (by kernel_rfl) (by simp [belF, bel, bels, bels_str, belT]) ?hD (.inr ⟨_, forms_has ho0, by simp⟩) ?hr ?hf
      case hD =>
        repeat' (first
          | refine aC_seq ?_
          | refine aC_reg rfl ?_
          | refine aC_block ?_
          | refine aC_skip ?_
          | refine aC_loop ?_
          | refine aC_scope ?_
          | refine scopeQ_normal ?_
          | refine scopeQ_exit ?_
          | refine scopeQ_ret ?_
          | refine aC_exit ?_
          | refine aC_ret ?_
          | refine thenQ_normal ?_
          | refine blockQ_normal ?_
          | refine thenQ_ret ?_
          | refine blockQ_ret ?_
          | refine thenQ_exit ?_
          | refine blockQ_hit ?_
          | refine blockQ_miss rfl ?_
          | refine aL_nil ?_
          | (apply aL_step; (· exact True.intro); (· simp (disch := first | omega | (simp only [go_sem]; omega)) only [go_sem, get_miss, seval, reduceCtorEq]); (· simp (disch := first | omega | (simp only [go_sem]; omega)) only [go_sem, get_miss, seval, reduceCtorEq] <;> with_reducible rfl); (· simp only [go_sem] <;> with_reducible rfl))
          | (refine aL_skip ?_ (by simp only [go_sem] <;> with_reducible rfl) ?_; (· simp (disch := first | omega | (simp only [go_sem]; omega)) only [go_sem, get_miss, seval, reduceCtorEq]))
          | (apply aL_guardN; (· simp (disch := first | omega | (simp only [go_sem]; omega)) only [go_sem, get_miss, seval, reduceCtorEq] <;> with_reducible rfl); all_goals (intro h; first | (exfalso; omega) | (simp only [h, decide_true, decide_false, not_true, not_false_iff])))
          | (apply aL_guardP; (· simp (disch := first | omega | (simp only [go_sem]; omega)) only [go_sem, get_miss, seval, reduceCtorEq] <;> with_reducible rfl); all_goals (intro h; first | (exfalso; omega) | (simp only [h, decide_true, decide_false, not_true, not_false_iff])))
          | (refine aC_condT ?_ ?_; (· simp (disch := first | omega | (simp only [go_sem]; omega)) only [go_sem, get_miss, seval, reduceCtorEq]))
          | (refine aC_condF ?_ ?_; (· simp (disch := first | omega | (simp only [go_sem]; omega)) only [go_sem, get_miss, seval, reduceCtorEq]))
          | (refine aC_condP (by simp (disch := first | omega | (simp only [go_sem]; omega)) only [go_sem, get_miss, seval, reduceCtorEq] <;> with_reducible rfl) ?_ ?_ <;> (intro h; first | (exfalso; omega) | skip))
          | fail)
        all_goals try trivial
        exact ⟨rfl, rfl, fun h => by cases h⟩
      case hf =>
        intro x f T h
        injection h with h
        simp only [Prod.mk.injEq] at h
        obtain ⟨rfl, rfl, rfl⟩ := h
        simp only [XE.ex]
        repeat' (first
          | refine aC_seq ?_
          | refine aC_reg rfl ?_
          | refine aC_block ?_
          | refine aC_skip ?_
          | refine aC_loop ?_
          | refine aC_scope ?_
          | refine scopeQ_normal ?_
          | refine scopeQ_exit ?_
          | refine scopeQ_ret ?_
          | refine aC_exit ?_
          | refine aC_ret ?_
          | refine thenQ_normal ?_
          | refine blockQ_normal ?_
          | refine thenQ_ret ?_
          | refine blockQ_ret ?_
          | refine thenQ_exit ?_
          | refine blockQ_hit ?_
          | refine blockQ_miss rfl ?_
          | refine aL_nil ?_
          | (apply aL_step; (· exact True.intro); (· simp (disch := first | omega | (simp only [go_sem]; omega)) only [go_sem, get_miss, seval, reduceCtorEq]); (· simp (disch := first | omega | (simp only [go_sem]; omega)) only [go_sem, get_miss, seval, reduceCtorEq] <;> with_reducible rfl); (· simp only [go_sem] <;> with_reducible rfl))
          | (refine aL_skip ?_ (by simp only [go_sem] <;> with_reducible rfl) ?_; (· simp (disch := first | omega | (simp only [go_sem]; omega)) only [go_sem, get_miss, seval, reduceCtorEq]))
          | (apply aL_guardN; (· simp (disch := first | omega | (simp only [go_sem]; omega)) only [go_sem, get_miss, seval, reduceCtorEq] <;> with_reducible rfl); all_goals (intro h; first | (exfalso; omega) | (simp only [h, decide_true, decide_false, not_true, not_false_iff])))
          | (apply aL_guardP; (· simp (disch := first | omega | (simp only [go_sem]; omega)) only [go_sem, get_miss, seval, reduceCtorEq] <;> with_reducible rfl); all_goals (intro h; first | (exfalso; omega) | (simp only [h, decide_true, decide_false, not_true, not_false_iff])))
          | (refine aC_condT ?_ ?_; (· simp (disch := first | omega | (simp only [go_sem]; omega)) only [go_sem, get_miss, seval, reduceCtorEq]))
          | (refine aC_condF ?_ ?_; (· simp (disch := first | omega | (simp only [go_sem]; omega)) only [go_sem, get_miss, seval, reduceCtorEq]))
          | (refine aC_condP (by simp (disch := first | omega | (simp only [go_sem]; omega)) only [go_sem, get_miss, seval, reduceCtorEq] <;> with_reducible rfl) ?_ ?_ <;> (intro h; first | (exfalso; omega) | skip))
          | fail)
        all_goals try (first | exact True.intro | omega)
        all_goals try (simp (disch := first | omega | (simp only [go_sem]; omega)) only [go_sem, get_miss, seval, reduceCtorEq] <;> first | exact True.intro | omega)
        all_goals try (simp (disch := first | omega | (simp only [go_sem]; omega)) only [go_sem, get_miss, seval, reduceCtorEq])
        all_goals try simp
      case hr =>
        intro e he
        obtain ⟨op, ho, rfl⟩ := forms_mem he
        by_cases hop : op = op0
        · subst hop
          have hxr := insK_range ((frm op).1 :: wr) (frm op).2
          have hcm := cpu_may op d a b i (frm op).1 (frm op).2 (by have := (hxr (frm op).2.length).2.2.2; rw [hq] at this; simp only at this; omega) (by have := (hxr (frm op).2.length).2.2.2; rw [hq] at this; simp only at this; omega)
          by_cases hM : MayF op d a b i (frm op).1 (frm op).2
          case' pos =>
            rw [decide_eq_true hM] at hcm
            have htx := cpu_text (may_range hM).1 (may_range hM).2.1 (may_range hM).2.2.1 (may_range hM).2.2.2.1 (may_range hM).2.2.2.2
            have hac2 : acc = decide (txt op d a b i = s) := by rw [hacc]; simp [hM]
          case' neg =>
            rw [decide_eq_false hM] at hcm
            have hac2 : acc = false := by rw [hacc]; simp [hM]
            have htx := hcm
          all_goals
          clear hM he hw hacc
          generalize txt op d a b i = X at *
          generalize (frm op).1 = w at *
          generalize (frm op).2 = p at *
          repeat' (first
            | refine aC_seq ?_
            | refine aC_reg rfl ?_
            | refine aC_block ?_
            | refine aC_skip ?_
            | refine aC_loop ?_
            | refine aC_scope ?_
            | refine scopeQ_normal ?_
            | refine scopeQ_exit ?_
            | refine scopeQ_ret ?_
            | refine aC_exit ?_
            | refine aC_ret ?_
            | refine thenQ_normal ?_
            | refine blockQ_normal ?_
            | refine thenQ_ret ?_
            | refine blockQ_ret ?_
            | refine thenQ_exit ?_
            | refine blockQ_hit ?_
            | refine blockQ_miss rfl ?_
            | refine aL_nil ?_
            | (apply aL_step; (· exact True.intro); (· simp (disch := first | omega | (simp only [go_sem]; omega)) only [go_sem, get_miss, seval, reduceCtorEq]); (· simp (disch := first | omega | (simp only [go_sem]; omega)) only [go_sem, get_miss, seval, reduceCtorEq] <;> with_reducible rfl); (· simp only [go_sem] <;> with_reducible rfl))
            | (refine aL_skip ?_ (by simp only [go_sem] <;> with_reducible rfl) ?_; (· simp (disch := first | omega | (simp only [go_sem]; omega)) only [go_sem, get_miss, seval, reduceCtorEq]))
            | (apply aL_guardN; (· simp (disch := first | omega | (simp only [go_sem]; omega)) only [go_sem, get_miss, seval, reduceCtorEq] <;> with_reducible rfl); all_goals (intro h; first | (exfalso; omega) | (simp only [h, decide_true, decide_false, not_true, not_false_iff])))
            | (apply aL_guardP; (· simp (disch := first | omega | (simp only [go_sem]; omega)) only [go_sem, get_miss, seval, reduceCtorEq] <;> with_reducible rfl); all_goals (intro h; first | (exfalso; omega) | (simp only [h, decide_true, decide_false, not_true, not_false_iff])))
            | (refine aC_condT ?_ ?_; (· simp (disch := first | omega | (simp only [go_sem]; omega)) only [go_sem, get_miss, seval, reduceCtorEq]))
            | (refine aC_condF ?_ ?_; (· simp (disch := first | omega | (simp only [go_sem]; omega)) only [go_sem, get_miss, seval, reduceCtorEq]))
            | (refine aC_condP (by simp (disch := first | omega | (simp only [go_sem]; omega)) only [go_sem, get_miss, seval, reduceCtorEq] <;> with_reducible rfl) ?_ ?_ <;> (intro h; first | (exfalso; omega) | skip))
            | fail)
          all_goals try trivial
          refine ⟨rfl, rfl, rfl, ?_⟩
          repeat' (first
            | refine aC_seq ?_
            | refine aC_reg rfl ?_
            | refine aC_block ?_
            | refine aC_skip ?_
            | refine aC_loop ?_
            | refine aC_scope ?_
            | refine scopeQ_normal ?_
            | refine scopeQ_exit ?_
            | refine scopeQ_ret ?_
            | refine aC_exit ?_
            | refine aC_ret ?_
            | refine thenQ_normal ?_
            | refine blockQ_normal ?_
            | refine thenQ_ret ?_
            | refine blockQ_ret ?_
            | refine thenQ_exit ?_
            | refine blockQ_hit ?_
            | refine blockQ_miss rfl ?_
            | refine aL_nil ?_
            | (apply aL_step; (· exact True.intro); (· simp (disch := first | omega | (simp only [go_sem]; omega)) only [go_sem, get_miss, seval, reduceCtorEq]); (· simp (disch := first | omega | (simp only [go_sem]; omega)) only [go_sem, get_miss, seval, reduceCtorEq] <;> with_reducible rfl); (· simp only [go_sem] <;> with_reducible rfl))
            | (refine aL_skip ?_ (by simp only [go_sem] <;> with_reducible rfl) ?_; (· simp (disch := first | omega | (simp only [go_sem]; omega)) only [go_sem, get_miss, seval, reduceCtorEq]))
            | (apply aL_guardN; (· simp (disch := first | omega | (simp only [go_sem]; omega)) only [go_sem, get_miss, seval, reduceCtorEq] <;> with_reducible rfl); all_goals (intro h; first | (exfalso; omega) | (simp only [h, decide_true, decide_false, not_true, not_false_iff])))
            | (apply aL_guardP; (· simp (disch := first | omega | (simp only [go_sem]; omega)) only [go_sem, get_miss, seval, reduceCtorEq] <;> with_reducible rfl); all_goals (intro h; first | (exfalso; omega) | (simp only [h, decide_true, decide_false, not_true, not_false_iff])))
            | (refine aC_condT ?_ ?_; (· simp (disch := first | omega | (simp only [go_sem]; omega)) only [go_sem, get_miss, seval, reduceCtorEq]))
            | (refine aC_condF ?_ ?_; (· simp (disch := first | omega | (simp only [go_sem]; omega)) only [go_sem, get_miss, seval, reduceCtorEq]))
            | (refine aC_condP (by simp (disch := first | omega | (simp only [go_sem]; omega)) only [go_sem, get_miss, seval, reduceCtorEq] <;> with_reducible rfl) ?_ ?_ <;> (intro h; first | (exfalso; omega) | skip))
            | fail)
          all_goals try trivial
          refine ⟨.ret, [(5, .bool acc), (4, .ptr 1 0)], [.frz (some FORMS), .cells [.int .i64 op, .int .i64 d, .int .i64 a, .int .i64 b, .int .i64 i] 26, .frz none, .cells [.str w, .str p] 85, .cells [.int .i64 op, .int .i64 d, .int .i64 a, .int .i64 b, .int .i64 i] 26, .siter p p.length], ?_, .inr ⟨by simp, (fun h => by cases h), (fun h => by cases h), rfl⟩⟩
          have hb : (w == w) = true := by simp
          repeat' (first
            | refine aC_seq ?_
            | refine aC_reg rfl ?_
            | refine aC_block ?_
            | refine aC_skip ?_
            | refine aC_loop ?_
            | refine aC_scope ?_
            | refine scopeQ_normal ?_
            | refine scopeQ_exit ?_
            | refine scopeQ_ret ?_
            | refine aC_exit ?_
            | refine aC_ret ?_
            | refine thenQ_normal ?_
            | refine blockQ_normal ?_
            | refine thenQ_ret ?_
            | refine blockQ_ret ?_
            | refine thenQ_exit ?_
            | refine blockQ_hit ?_
            | refine blockQ_miss rfl ?_
            | refine aL_nil ?_
            | (apply aL_step; (· exact True.intro); (· simp (disch := first | omega | (simp only [go_sem]; omega)) only [go_sem, get_miss, seval, reduceCtorEq, hb, aStep_rangeS, aRange]); (· simp (disch := first | omega | (simp only [go_sem]; omega)) only [go_sem, get_miss, seval, reduceCtorEq, hb, aStep_rangeS, aRange] <;> with_reducible rfl); (· simp only [go_sem] <;> with_reducible rfl))
            | (refine aL_skip ?_ (by simp only [go_sem] <;> with_reducible rfl) ?_; (· simp (disch := first | omega | (simp only [go_sem]; omega)) only [go_sem, get_miss, seval, reduceCtorEq, hb, aStep_rangeS, aRange]))
            | (apply aL_guardN; (· simp (disch := first | omega | (simp only [go_sem]; omega)) only [go_sem, get_miss, seval, reduceCtorEq, hb, aStep_rangeS, aRange] <;> with_reducible rfl); all_goals (intro h; first | (exfalso; omega) | (simp only [h, decide_true, decide_false, not_true, not_false_iff])))
            | (apply aL_guardP; (· simp (disch := first | omega | (simp only [go_sem]; omega)) only [go_sem, get_miss, seval, reduceCtorEq, hb, aStep_rangeS, aRange] <;> with_reducible rfl); all_goals (intro h; first | (exfalso; omega) | (simp only [h, decide_true, decide_false, not_true, not_false_iff])))
            | (refine aC_condT ?_ ?_; (· simp (disch := first | omega | (simp only [go_sem]; omega)) only [go_sem, get_miss, seval, reduceCtorEq, hb, aStep_rangeS, aRange]))
            | (refine aC_condF ?_ ?_; (· simp (disch := first | omega | (simp only [go_sem]; omega)) only [go_sem, get_miss, seval, reduceCtorEq, hb, aStep_rangeS, aRange]))
            | (refine aC_condP (by simp (disch := first | omega | (simp only [go_sem]; omega)) only [go_sem, get_miss, seval, reduceCtorEq, hb, aStep_rangeS, aRange] <;> with_reducible rfl) ?_ ?_ <;> (intro h; first | (exfalso; omega) | skip))
            | fail)
          all_goals try trivial
          · refine loop_rule (cxOk.wp _ _) (σ := Nat) (fun k => [(41, .ptr 5 0), (9, .ptr 4 0), (8, .ptr 3 0), (4, .ptr 1 0), (0, .str s), (6, .sl 1 false (.str w :: wr.map .str) .full)])
              (fun k => [.frz (some FORMS), .cells [.int .i64 0, .int .i64 0, .int .i64 0, .int .i64 0, .int .i64 0] 26, .frz none, .cells [.str w, .str p] 85, .cells [.int .i64 op, .int .i64 (insK (w :: wr) p k).1, .int .i64 (insK (w :: wr) p k).2.1, .int .i64 (insK (w :: wr) p k).2.2.1, .int .i64 (insK (w :: wr) p k).2.2.2] 26, .siter p k])
              (fun k => p.length - k) (fun k => k ≤ p.length) 0 (GStep.refl _ _) ⟨Nat.zero_le _, Sub.of_all (by simp [Fr.get]), rfl⟩ ?_
            intro k hk
            by_cases hlt : k < p.length
            · have e0 : p[k]? = some p[k] := List.getElem?_eq_getElem hlt
              have hc := hpc p[k] (List.getElem_mem hlt)
              have hlw : k < wr.length := by omega
              have hx := hwp wr[k] (List.getElem_mem hlw)
              have htr := a_trim wr[k] [114]
              have hle := Lib.trimPrefix_le wr[k] [114]
              have hnu := cpu_number (Lib.trimPrefix wr[k] [114]) (by omega)
              have ek : insK (w :: wr) p (k + 1) = stepI (insK (w :: wr) p k) p[k] (numP (Lib.trimPrefix wr[k] [114])) := by
                simp [insK, List.getD, hlt, hlw, Nat.add_comm 1 k]
              have eg : (AVal.str w :: wr.map AVal.str).getD (1 + (k : Int)).toNat .any = .str wr[k] := by
                rw [show (1 + (k : Int)).toNat = k + 1 by omega]
                simp [List.getD, hlw]
              have hlk : 1 + (k : Int) < 9223372036854775807 := by omega
              obtain ⟨q1, q2, q3, q4, hq'⟩ : ∃ q1 q2 q3 q4, insK (w :: wr) p k = (q1, q2, q3, q4) := ⟨_, _, _, _, rfl⟩
              rw [hq'] at ek
              simp only [hq']
              generalize numP (Lib.trimPrefix wr[k] [114]) = n at *
              generalize Lib.trimPrefix wr[k] [114] = y at *
              generalize p[k] = c at *
              clear hcm htx
              rcases hc with rfl | rfl | rfl | rfl
              all_goals
              repeat' (first
                | refine aC_seq ?_
                | refine aC_reg rfl ?_
                | refine aC_block ?_
                | refine aC_skip ?_
                | refine aC_loop ?_
                | refine aC_scope ?_
                | refine scopeQ_normal ?_
                | refine scopeQ_exit ?_
                | refine scopeQ_ret ?_
                | refine aC_exit ?_
                | refine aC_ret ?_
                | refine thenQ_normal ?_
                | refine blockQ_normal ?_
                | refine thenQ_ret ?_
                | refine blockQ_ret ?_
                | refine thenQ_exit ?_
                | refine blockQ_hit ?_
                | refine blockQ_miss rfl ?_
                | refine aL_nil ?_
                | (apply aL_step; (· exact True.intro); (· simp (disch := first | omega | (simp only [go_sem]; omega)) only [go_sem, get_miss, seval, reduceCtorEq, aStep_nextS, aNextS, e0, UInt8.reduceToNat, eg]); (· simp (disch := first | omega | (simp only [go_sem]; omega)) only [go_sem, get_miss, seval, reduceCtorEq, aStep_nextS, aNextS, e0, UInt8.reduceToNat, eg] <;> with_reducible rfl); (· simp only [go_sem] <;> with_reducible rfl))
                | (refine aL_skip ?_ (by simp only [go_sem] <;> with_reducible rfl) ?_; (· simp (disch := first | omega | (simp only [go_sem]; omega)) only [go_sem, get_miss, seval, reduceCtorEq, aStep_nextS, aNextS, e0, UInt8.reduceToNat, eg]))
                | (apply aL_guardN; (· simp (disch := first | omega | (simp only [go_sem]; omega)) only [go_sem, get_miss, seval, reduceCtorEq, aStep_nextS, aNextS, e0, UInt8.reduceToNat, eg] <;> with_reducible rfl); all_goals (intro h; first | (exfalso; omega) | (simp only [h, decide_true, decide_false, not_true, not_false_iff])))
                | (apply aL_guardP; (· simp (disch := first | omega | (simp only [go_sem]; omega)) only [go_sem, get_miss, seval, reduceCtorEq, aStep_nextS, aNextS, e0, UInt8.reduceToNat, eg] <;> with_reducible rfl); all_goals (intro h; first | (exfalso; omega) | (simp only [h, decide_true, decide_false, not_true, not_false_iff])))
                | (refine aC_condT ?_ ?_; (· simp (disch := first | omega | (simp only [go_sem]; omega)) only [go_sem, get_miss, seval, reduceCtorEq, aStep_nextS, aNextS, e0, UInt8.reduceToNat, eg]))
                | (refine aC_condF ?_ ?_; (· simp (disch := first | omega | (simp only [go_sem]; omega)) only [go_sem, get_miss, seval, reduceCtorEq, aStep_nextS, aNextS, e0, UInt8.reduceToNat, eg]))
                | (refine aC_condP (by simp (disch := first | omega | (simp only [go_sem]; omega)) only [go_sem, get_miss, seval, reduceCtorEq, aStep_nextS, aNextS, e0, UInt8.reduceToNat, eg] <;> with_reducible rfl) ?_ ?_ <;> (intro h; first | (exfalso; omega) | skip))
                | (apply aL_pure cxG (htr); (case hg => (simp (disch := first | omega | (simp only [go_sem]; omega)) only [go_sem, get_miss, seval, reduceCtorEq, aStep_nextS, aNextS, e0, UInt8.reduceToNat, eg])); (case hx => (simp (disch := first | omega | (simp only [go_sem]; omega)) only [go_sem, get_miss, seval, reduceCtorEq, aStep_nextS, aNextS, e0, UInt8.reduceToNat, eg] <;> with_reducible rfl)); (case ha => (simp (disch := first | omega | (simp only [go_sem]; omega)) only [go_sem, get_miss, seval, reduceCtorEq, aStep_nextS, aNextS, e0, UInt8.reduceToNat, eg] <;> with_reducible rfl)); (case he => (simp only [go_sem] <;> with_reducible rfl)); (case hcl => (simp)); (case hf => (simp only [go_sem] <;> with_reducible rfl)))
                | (apply aL_pure cxG (hnu); (case hg => (simp (disch := first | omega | (simp only [go_sem]; omega)) only [go_sem, get_miss, seval, reduceCtorEq, aStep_nextS, aNextS, e0, UInt8.reduceToNat, eg])); (case hx => (simp (disch := first | omega | (simp only [go_sem]; omega)) only [go_sem, get_miss, seval, reduceCtorEq, aStep_nextS, aNextS, e0, UInt8.reduceToNat, eg] <;> with_reducible rfl)); (case ha => (simp (disch := first | omega | (simp only [go_sem]; omega)) only [go_sem, get_miss, seval, reduceCtorEq, aStep_nextS, aNextS, e0, UInt8.reduceToNat, eg] <;> with_reducible rfl)); (case he => (simp only [go_sem] <;> with_reducible rfl)); (case hcl => (simp)); (case hf => (simp only [go_sem] <;> with_reducible rfl)))
                | fail)
              all_goals try (first | exact True.intro | omega)
              all_goals try (simp (disch := first | omega | (simp only [go_sem]; omega)) only [go_sem, get_miss, seval, reduceCtorEq] <;> first | exact True.intro | omega)
              all_goals first | exact not_false | (simp (disch := first | omega | (simp only [go_sem]; omega)) only [go_sem, get_miss, seval, reduceCtorEq, eg]; done) | exact ⟨k + 1, by omega, Sub.of_all (by simp [Fr.get]), by simp [ek, stepI], by omega⟩
            · have e0 : p[k]? = none := List.getElem?_eq_none (by omega)
              have hk2 : k = p.length := by omega
              subst hk2
              rw [hq]
              simp only
              repeat' (first
                | refine aC_seq ?_
                | refine aC_reg rfl ?_
                | refine aC_block ?_
                | refine aC_skip ?_
                | refine aC_loop ?_
                | refine aC_scope ?_
                | refine scopeQ_normal ?_
                | refine scopeQ_exit ?_
                | refine scopeQ_ret ?_
                | refine aC_exit ?_
                | refine aC_ret ?_
                | refine thenQ_normal ?_
                | refine blockQ_normal ?_
                | refine thenQ_ret ?_
                | refine blockQ_ret ?_
                | refine thenQ_exit ?_
                | refine blockQ_hit ?_
                | refine blockQ_miss rfl ?_
                | refine aL_nil ?_
                | (apply aL_step; (· exact True.intro); (· simp (disch := first | omega | (simp only [go_sem]; omega)) only [go_sem, get_miss, seval, reduceCtorEq, aStep_nextS, aNextS, e0]); (· simp (disch := first | omega | (simp only [go_sem]; omega)) only [go_sem, get_miss, seval, reduceCtorEq, aStep_nextS, aNextS, e0] <;> with_reducible rfl); (· simp only [go_sem] <;> with_reducible rfl))
                | (refine aL_skip ?_ (by simp only [go_sem] <;> with_reducible rfl) ?_; (· simp (disch := first | omega | (simp only [go_sem]; omega)) only [go_sem, get_miss, seval, reduceCtorEq, aStep_nextS, aNextS, e0]))
                | (apply aL_guardN; (· simp (disch := first | omega | (simp only [go_sem]; omega)) only [go_sem, get_miss, seval, reduceCtorEq, aStep_nextS, aNextS, e0] <;> with_reducible rfl); all_goals (intro h; first | (exfalso; omega) | (simp only [h, decide_true, decide_false, not_true, not_false_iff])))
                | (apply aL_guardP; (· simp (disch := first | omega | (simp only [go_sem]; omega)) only [go_sem, get_miss, seval, reduceCtorEq, aStep_nextS, aNextS, e0] <;> with_reducible rfl); all_goals (intro h; first | (exfalso; omega) | (simp only [h, decide_true, decide_false, not_true, not_false_iff])))
                | (refine aC_condT ?_ ?_; (· simp (disch := first | omega | (simp only [go_sem]; omega)) only [go_sem, get_miss, seval, reduceCtorEq, aStep_nextS, aNextS, e0]))
                | (refine aC_condF ?_ ?_; (· simp (disch := first | omega | (simp only [go_sem]; omega)) only [go_sem, get_miss, seval, reduceCtorEq, aStep_nextS, aNextS, e0]))
                | (refine aC_condP (by simp (disch := first | omega | (simp only [go_sem]; omega)) only [go_sem, get_miss, seval, reduceCtorEq, aStep_nextS, aNextS, e0] <;> with_reducible rfl) ?_ ?_ <;> (intro h; first | (exfalso; omega) | skip))
                | fail)
              all_goals try trivial
              refine aC_regB (U := [(some 68, some 71), (some 68, some 75)]) rfl [(some 68, 4), (some 69, 4), (some 70, 3), (some 73, 4), (some 74, 3)] ?_
              repeat' (first
                | refine aLB_nil ?_
                | (apply aLB_step; (· exact True.intro); (· exact (by intro h; cases h)); (· rfl); (· simp (disch := first | omega | (simp only [go_sem]; omega)) only [go_sem, get_miss, seval, reduceCtorEq]); (· simp (disch := first | omega | (simp only [go_sem]; omega)) only [go_sem, get_miss, seval, reduceCtorEq] <;> with_reducible rfl); (· simp only [go_sem] <;> with_reducible rfl); (· (intro b hb; first | (cases hb; done) | (simp (disch := first | omega | (simp only [go_sem]; omega)) only [loadBox, go_sem, get_miss, seval, reduceCtorEq] at hb; (try injection hb with hb); subst hb; simp))))
                | (apply aLB_write; (· exact True.intro); (· rfl); (· rfl); (· simp (disch := first | omega | (simp only [go_sem]; omega)) only [go_sem, get_miss, seval, reduceCtorEq]); (· simp (disch := first | omega | (simp only [go_sem]; omega)) only [go_sem, get_miss, seval, reduceCtorEq] <;> with_reducible rfl); (· simp only [go_sem] <;> with_reducible rfl); (· simp))
                | (refine aLB_skip ?_ (by simp only [go_sem] <;> with_reducible rfl) ?_; (· simp (disch := first | omega | (simp only [go_sem]; omega)) only [go_sem, get_miss, seval, reduceCtorEq]))
                | (apply aLB_pure cxG (hcm); (case hg => (simp (disch := first | omega | (simp only [go_sem]; omega)) only [go_sem, get_miss, seval, reduceCtorEq])); (case hx => (simp (disch := first | omega | (simp only [go_sem]; omega)) only [go_sem, get_miss, seval, reduceCtorEq] <;> with_reducible rfl)); (case ha => (simp (disch := first | omega | (simp only [go_sem]; omega)) only [go_sem, get_miss, seval, reduceCtorEq] <;> with_reducible rfl)); (case he => (simp only [go_sem] <;> with_reducible rfl)); (case hcl => (simp)); (case hf => (simp only [go_sem] <;> with_reducible rfl)))
                | (apply aLB_pure cxG (htx); (case hg => (simp (disch := first | omega | (simp only [go_sem]; omega)) only [go_sem, get_miss, seval, reduceCtorEq])); (case hx => (simp (disch := first | omega | (simp only [go_sem]; omega)) only [go_sem, get_miss, seval, reduceCtorEq] <;> with_reducible rfl)); (case ha => (simp (disch := first | omega | (simp only [go_sem]; omega)) only [go_sem, get_miss, seval, reduceCtorEq] <;> with_reducible rfl)); (case he => (simp only [go_sem] <;> with_reducible rfl)); (case hcl => (simp)); (case hf => (simp only [go_sem] <;> with_reducible rfl)))
                | fail)
              repeat' (first
                | refine aC_seq ?_
                | refine aC_reg rfl ?_
                | refine aC_block ?_
                | refine aC_skip ?_
                | refine aC_loop ?_
                | refine aC_scope ?_
                | refine scopeQ_normal ?_
                | refine scopeQ_exit ?_
                | refine scopeQ_ret ?_
                | refine aC_exit ?_
                | refine aC_ret ?_
                | refine thenQ_normal ?_
                | refine blockQ_normal ?_
                | refine thenQ_ret ?_
                | refine blockQ_ret ?_
                | refine thenQ_exit ?_
                | refine blockQ_hit ?_
                | refine blockQ_miss rfl ?_
                | refine aL_nil ?_
                | (apply aL_step; (· exact True.intro); (· simp (disch := first | omega | (simp only [go_sem]; omega)) only [go_sem, get_miss, seval, reduceCtorEq]); (· simp (disch := first | omega | (simp only [go_sem]; omega)) only [go_sem, get_miss, seval, reduceCtorEq] <;> with_reducible rfl); (· simp only [go_sem] <;> with_reducible rfl))
                | (refine aL_skip ?_ (by simp only [go_sem] <;> with_reducible rfl) ?_; (· simp (disch := first | omega | (simp only [go_sem]; omega)) only [go_sem, get_miss, seval, reduceCtorEq]))
                | (apply aL_guardN; (· simp (disch := first | omega | (simp only [go_sem]; omega)) only [go_sem, get_miss, seval, reduceCtorEq] <;> with_reducible rfl); all_goals (intro h; first | (exfalso; omega) | (simp only [h, decide_true, decide_false, not_true, not_false_iff])))
                | (apply aL_guardP; (· simp (disch := first | omega | (simp only [go_sem]; omega)) only [go_sem, get_miss, seval, reduceCtorEq] <;> with_reducible rfl); all_goals (intro h; first | (exfalso; omega) | (simp only [h, decide_true, decide_false, not_true, not_false_iff])))
                | (refine aC_condT ?_ ?_; (· simp (disch := first | omega | (simp only [go_sem]; omega)) only [go_sem, get_miss, seval, reduceCtorEq]))
                | (refine aC_condF ?_ ?_; (· simp (disch := first | omega | (simp only [go_sem]; omega)) only [go_sem, get_miss, seval, reduceCtorEq]))
                | (refine aC_condP (by simp (disch := first | omega | (simp only [go_sem]; omega)) only [go_sem, get_miss, seval, reduceCtorEq] <;> with_reducible rfl) ?_ ?_ <;> (intro h; first | (exfalso; omega) | skip))
                | fail)
              all_goals try (first | exact True.intro | omega)
              all_goals try (simp (disch := first | omega | (simp only [go_sem]; omega)) only [go_sem, get_miss, seval, reduceCtorEq] <;> first | exact True.intro | omega)
              all_goals first | exact not_false | exact ⟨rfl, Sub.of_all (by simp [Fr.get, hac2]), rfl⟩ | simp
          all_goals first | exact not_false | omega | simp
        · have hne : (frm op).1 ≠ (frm op0).1 := fun h => hop (frm_inj ho ho0 h)
          have hb : ((frm op).1 == (frm op0).1) = false := by simp [hne]
          repeat' (first
            | refine aC_seq ?_
            | refine aC_reg rfl ?_
            | refine aC_block ?_
            | refine aC_skip ?_
            | refine aC_loop ?_
            | refine aC_scope ?_
            | refine scopeQ_normal ?_
            | refine scopeQ_exit ?_
            | refine scopeQ_ret ?_
            | refine aC_exit ?_
            | refine aC_ret ?_
            | refine thenQ_normal ?_
            | refine blockQ_normal ?_
            | refine thenQ_ret ?_
            | refine blockQ_ret ?_
            | refine thenQ_exit ?_
            | refine blockQ_hit ?_
            | refine blockQ_miss rfl ?_
            | refine aL_nil ?_
            | (apply aL_step; (· exact True.intro); (· simp (disch := first | omega | (simp only [go_sem]; omega)) only [go_sem, get_miss, seval, reduceCtorEq]); (· simp (disch := first | omega | (simp only [go_sem]; omega)) only [go_sem, get_miss, seval, reduceCtorEq] <;> with_reducible rfl); (· simp only [go_sem] <;> with_reducible rfl))
            | (refine aL_skip ?_ (by simp only [go_sem] <;> with_reducible rfl) ?_; (· simp (disch := first | omega | (simp only [go_sem]; omega)) only [go_sem, get_miss, seval, reduceCtorEq]))
            | (apply aL_guardN; (· simp (disch := first | omega | (simp only [go_sem]; omega)) only [go_sem, get_miss, seval, reduceCtorEq] <;> with_reducible rfl); all_goals (intro h; first | (exfalso; omega) | (simp only [h, decide_true, decide_false, not_true, not_false_iff])))
            | (apply aL_guardP; (· simp (disch := first | omega | (simp only [go_sem]; omega)) only [go_sem, get_miss, seval, reduceCtorEq] <;> with_reducible rfl); all_goals (intro h; first | (exfalso; omega) | (simp only [h, decide_true, decide_false, not_true, not_false_iff])))
            | (refine aC_condT ?_ ?_; (· simp (disch := first | omega | (simp only [go_sem]; omega)) only [go_sem, get_miss, seval, reduceCtorEq]))
            | (refine aC_condF ?_ ?_; (· simp (disch := first | omega | (simp only [go_sem]; omega)) only [go_sem, get_miss, seval, reduceCtorEq]))
            | (refine aC_condP (by simp (disch := first | omega | (simp only [go_sem]; omega)) only [go_sem, get_miss, seval, reduceCtorEq] <;> with_reducible rfl) ?_ ?_ <;> (intro h; first | (exfalso; omega) | skip))
            | fail)
          all_goals try trivial
          refine ⟨rfl, rfl, rfl, ?_⟩
          repeat' (first
            | refine aC_seq ?_
            | refine aC_reg rfl ?_
            | refine aC_block ?_
            | refine aC_skip ?_
            | refine aC_loop ?_
            | refine aC_scope ?_
            | refine scopeQ_normal ?_
            | refine scopeQ_exit ?_
            | refine scopeQ_ret ?_
            | refine aC_exit ?_
            | refine aC_ret ?_
            | refine thenQ_normal ?_
            | refine blockQ_normal ?_
            | refine thenQ_ret ?_
            | refine blockQ_ret ?_
            | refine thenQ_exit ?_
            | refine blockQ_hit ?_
            | refine blockQ_miss rfl ?_
            | refine aL_nil ?_
            | (apply aL_step; (· exact True.intro); (· simp (disch := first | omega | (simp only [go_sem]; omega)) only [go_sem, get_miss, seval, reduceCtorEq]); (· simp (disch := first | omega | (simp only [go_sem]; omega)) only [go_sem, get_miss, seval, reduceCtorEq] <;> with_reducible rfl); (· simp only [go_sem] <;> with_reducible rfl))
            | (refine aL_skip ?_ (by simp only [go_sem] <;> with_reducible rfl) ?_; (· simp (disch := first | omega | (simp only [go_sem]; omega)) only [go_sem, get_miss, seval, reduceCtorEq]))
            | (apply aL_guardN; (· simp (disch := first | omega | (simp only [go_sem]; omega)) only [go_sem, get_miss, seval, reduceCtorEq] <;> with_reducible rfl); all_goals (intro h; first | (exfalso; omega) | (simp only [h, decide_true, decide_false, not_true, not_false_iff])))
            | (apply aL_guardP; (· simp (disch := first | omega | (simp only [go_sem]; omega)) only [go_sem, get_miss, seval, reduceCtorEq] <;> with_reducible rfl); all_goals (intro h; first | (exfalso; omega) | (simp only [h, decide_true, decide_false, not_true, not_false_iff])))
            | (refine aC_condT ?_ ?_; (· simp (disch := first | omega | (simp only [go_sem]; omega)) only [go_sem, get_miss, seval, reduceCtorEq]))
            | (refine aC_condF ?_ ?_; (· simp (disch := first | omega | (simp only [go_sem]; omega)) only [go_sem, get_miss, seval, reduceCtorEq]))
            | (refine aC_condP (by simp (disch := first | omega | (simp only [go_sem]; omega)) only [go_sem, get_miss, seval, reduceCtorEq] <;> with_reducible rfl) ?_ ?_ <;> (intro h; first | (exfalso; omega) | skip))
            | fail)
          all_goals try trivial
          refine ⟨.ext 1, [(6, .sl 1 false (.str (frm op0).1 :: wr.map .str) .full), (16, .ptr 2 0), (4, .ptr 1 0), (0, .str s)], [.frz (some FORMS), .cells [.int .i64 0, .int .i64 0, .int .i64 0, .int .i64 0, .int .i64 0] 26, .frz none, .cells [.str (frm op).1, .str (frm op).2] 85], ?_, .inl ⟨by simp [hop], .inr rfl, rfl, fun _ => .inr rfl⟩⟩
          repeat' (first
            | refine aC_seq ?_
            | refine aC_reg rfl ?_
            | refine aC_block ?_
            | refine aC_skip ?_
            | refine aC_loop ?_
            | refine aC_scope ?_
            | refine scopeQ_normal ?_
            | refine scopeQ_exit ?_
            | refine scopeQ_ret ?_
            | refine aC_exit ?_
            | refine aC_ret ?_
            | refine thenQ_normal ?_
            | refine blockQ_normal ?_
            | refine thenQ_ret ?_
            | refine blockQ_ret ?_
            | refine thenQ_exit ?_
            | refine blockQ_hit ?_
            | refine blockQ_miss rfl ?_
            | refine aL_nil ?_
            | (apply aL_step; (· exact True.intro); (· simp (disch := first | omega | (simp only [go_sem]; omega)) only [go_sem, get_miss, seval, reduceCtorEq, hb]); (· simp (disch := first | omega | (simp only [go_sem]; omega)) only [go_sem, get_miss, seval, reduceCtorEq, hb] <;> with_reducible rfl); (· simp only [go_sem] <;> with_reducible rfl))
            | (refine aL_skip ?_ (by simp only [go_sem] <;> with_reducible rfl) ?_; (· simp (disch := first | omega | (simp only [go_sem]; omega)) only [go_sem, get_miss, seval, reduceCtorEq, hb]))
            | (apply aL_guardN; (· simp (disch := first | omega | (simp only [go_sem]; omega)) only [go_sem, get_miss, seval, reduceCtorEq, hb] <;> with_reducible rfl); all_goals (intro h; first | (exfalso; omega) | (simp only [h, decide_true, decide_false, not_true, not_false_iff])))
            | (apply aL_guardP; (· simp (disch := first | omega | (simp only [go_sem]; omega)) only [go_sem, get_miss, seval, reduceCtorEq, hb] <;> with_reducible rfl); all_goals (intro h; first | (exfalso; omega) | (simp only [h, decide_true, decide_false, not_true, not_false_iff])))
            | (refine aC_condT ?_ ?_; (· simp (disch := first | omega | (simp only [go_sem]; omega)) only [go_sem, get_miss, seval, reduceCtorEq, hb]))
            | (refine aC_condF ?_ ?_; (· simp (disch := first | omega | (simp only [go_sem]; omega)) only [go_sem, get_miss, seval, reduceCtorEq, hb]))
            | (refine aC_condP (by simp (disch := first | omega | (simp only [go_sem]; omega)) only [go_sem, get_miss, seval, reduceCtorEq, hb] <;> with_reducible rfl) ?_ ?_ <;> (intro h; first | (exfalso; omega) | skip))
            | fail)
          all_goals try (first | exact True.intro | omega)
          all_goals try (simp (disch := first | omega | (simp only [go_sem]; omega)) only [go_sem, get_miss, seval, reduceCtorEq] <;> first | exact True.intro | omega)
          all_goals first | exact not_false | exact ⟨rfl, Sub.of_all (by simp [Fr.get]), rfl⟩
    all_goals try (first | exact True.intro | omega)
    all_goals try (simp (disch := first | omega | (simp only [go_sem]; omega)) only [go_sem, get_miss, seval, reduceCtorEq] <;> first | exact True.intro | omega)
  exact ACall.drop cxG key (n := 1) (by simp) rfl (by kernel_rfl)
end Go.Am
end
section
set_option linter.unusedVariables false
set_option linter.unusedSimpArgs false
namespace Go.Am
open Go Go.Proofs
set_option linter.unusedSimpArgs false
set_option linter.unusedVariables false
set_option maxRecDepth 100000

/-! ### Parts -/
theorem index_miss1 (c : UInt8) : ∀ l : List UInt8, c ∉ l → Lib.index l [c] = -1
  | [], _ => rfl
  | b :: l, h => by
    have hb : ¬ c = b := fun e => h (by simp [e])
    rw [Lib.index]
    simp only [List.isPrefixOf, Bool.and_true, beq_iff_eq, hb, if_false, index_miss1 c l (fun k => h (List.mem_cons_of_mem _ k)), if_true]
theorem index_hit1 (c : UInt8) : ∀ x y : List UInt8, c ∉ x → Lib.index (x ++ c :: y) [c] = (x.length : Int)
  | [], y, _ => by
    rw [List.nil_append, Lib.index]
    simp [List.isPrefixOf]
  | b :: x, y, h => by
    have hb : ¬ c = b := fun e => h (by simp [e])
    have ih := index_hit1 c x y (fun k => h (List.mem_cons_of_mem _ k))
    rw [List.cons_append, Lib.index]
    simp only [List.isPrefixOf, Bool.and_true, beq_iff_eq, hb, if_false, ih]
    rw [if_neg (by omega)]
    simp

theorem ext_list (l : List UInt8) (a b : Nat) : (⟨l.toArray⟩ : ByteArray).extract a b = ⟨((l.drop a).take (b - a)).toArray⟩ := by
  apply ByteArray.ext
  rw [ByteArray.data_extract, List.extract_toArray]

theorem parts_miss (c : UInt8) (x : List UInt8) (h : c ∉ x) : parts x [c] = [x] := by
  have hi : Lib.indexB ⟨x.toArray⟩ ⟨[c].toArray⟩ = -1 := index_miss1 c x h
  unfold parts
  rw [Lib.countB_miss _ _ hi]
  rfl
theorem parts_hit (c : UInt8) (x y : List UInt8) (h : c ∉ x) : parts (x ++ c :: y) [c] = x :: parts y [c] := by
  have hi : Lib.indexB ⟨(x ++ c :: y).toArray⟩ ⟨[c].toArray⟩ = ((x.length : Nat) : Int) := index_hit1 c x y h
  have hs1 : (⟨[c].toArray⟩ : ByteArray).size = 1 := rfl
  have hs2 : (⟨(x ++ c :: y).toArray⟩ : ByteArray).size = x.length + (y.length + 1) := by show (x ++ c :: y).length = _; simp
  have ey : (⟨(x ++ c :: y).toArray⟩ : ByteArray).extract (x.length + (⟨[c].toArray⟩ : ByteArray).size) (⟨(x ++ c :: y).toArray⟩ : ByteArray).size = ⟨y.toArray⟩ := by
    rw [ext_list, hs1, hs2]
    congr 2
    rw [List.drop_append, List.drop_eq_nil_of_le (by omega), List.nil_append]
    simp
    rw [show x.length + (y.length + 1) - (x.length + 1) = y.length by omega]
    exact List.take_length
  unfold parts
  rw [Lib.countB_hit _ _ x.length (by rw [hs1]; exact Nat.le_refl _) hi, ey, Nat.add_comm, Lib.splitB_hit _ _ _ _ _ hi, ey, ext_list]
  simp

theorem splitB_sizes (sep : ByteArray) : ∀ (k : Nat) (s x : ByteArray), x ∈ Lib.splitB sep 0 k s → x.size ≤ s.size
  | 0, s, x, h => by
    rw [Lib.splitB_zero] at h
    rw [List.mem_singleton.1 h]
    exact Nat.le_refl _
  | k + 1, s, x, h => by
    unfold Lib.splitB at h
    split at h
    · rw [List.mem_singleton.1 h]; exact Nat.le_refl _
    · rcases List.mem_cons.1 h with rfl | h
      · rw [ByteArray.size_extract]; omega
      · have := splitB_sizes sep k _ x h
        rw [ByteArray.size_extract] at this
        omega
theorem parts_sizes (s p : List UInt8) : ∀ x ∈ parts s p, x.length ≤ s.length := by
  intro x hx
  unfold parts at hx
  obtain ⟨y, hy, rfl⟩ := List.mem_map.1 hx
  exact splitB_sizes _ _ _ _ hy
theorem parts_len (s : List UInt8) (p : List UInt8) (hp : 1 ≤ p.length) : ∃ w0 wr, parts s p = w0 :: wr ∧ wr.length ≤ s.length := by
  have h1 := Lib.splitB_all ⟨p.toArray⟩ hp 0 _ ⟨s.toArray⟩ rfl
  have h2 := Lib.countB_le ⟨p.toArray⟩ hp _ ⟨s.toArray⟩ (Nat.le_refl _)
  have hz : (⟨s.toArray⟩ : ByteArray).size = s.length := rfl
  have h3 : (parts s p).length = Lib.countB ⟨s.toArray⟩ ⟨p.toArray⟩ + 1 := by unfold parts; simpa using h1
  cases hq : parts s p with
  | nil => rw [hq] at h3; simp at h3
  | cons w0 wr =>
    rw [hq] at h3
    refine ⟨w0, wr, rfl, ?_⟩
    simp only [List.length_cons] at h3
    omega

/-! ### Numerals -/
theorem dec_all : ∀ (u : Nat), (∀ b ∈ Lib.decDigits u, 48 ≤ b.toNat ∧ b.toNat ≤ 57) ∧ Lib.decDigits u ≠ [] := by
  intro u
  induction u using Nat.strongRecOn with
  | _ u ih =>
    have one : ∀ m : Nat, m < 10 → 48 ≤ (UInt8.ofNat (48 + m)).toNat ∧ (UInt8.ofNat (48 + m)).toNat ≤ 57 := by
      intro m hm
      rw [ofNat_toNat8 _ (by omega)]
      omega
    rw [Lib.decDigits]
    split
    · next h =>
      refine ⟨fun b hb => ?_, by simp⟩
      rw [List.mem_singleton.1 hb]
      exact one u h
    · next h =>
      refine ⟨fun b hb => ?_, by simp⟩
      rcases List.mem_append.1 hb with hb | hb
      · exact (ih (u / 10) (by omega)).1 b hb
      · rw [List.mem_singleton.1 hb]
        exact one (u % 10) (by omega)

theorem parseM_append (M : Nat) : ∀ (l r : List UInt8) (acc a : Nat), Lib.parseUintM M acc l = .ok a → Lib.parseUintM M acc (l ++ r) = Lib.parseUintM M a r
  | [], r, acc, a, h => by
    simp only [Lib.parseUintM] at h
    injection h with h
    rw [h, List.nil_append]
  | c :: l, r, acc, a, h => by
    rw [List.cons_append]
    simp only [Lib.parseUintM] at h ⊢
    split at h
    · next h1 =>
      rw [if_pos h1]
      split at h
      · cases h
      · next h2 =>
        rw [if_neg h2]
        split at h
        · cases h
        · next h3 =>
          rw [if_neg h3]
          exact parseM_append M l r _ a h
    · cases h

theorem parse_one (M acc m : Nat) (hm : m < 10) (ha : acc < 1844674407370955162) (h : acc * 10 + m ≤ M) : Lib.parseUintM M acc [UInt8.ofNat (48 + m)] = .ok (acc * 10 + m) := by
  have e : (UInt8.ofNat (48 + m)).toNat = 48 + m := ofNat_toNat8 _ (by omega)
  simp only [Lib.parseUintM, e]
  rw [if_pos (by omega), if_neg (by omega), if_neg (by omega)]
  congr 1
  omega

theorem parse_dec (M : Nat) (hM : M < 1844674407370955162) : ∀ u : Nat, u ≤ M → Lib.parseUintM M 0 (Lib.decDigits u) = .ok u := by
  intro u
  induction u using Nat.strongRecOn with
  | _ u ih =>
    intro hu
    rw [Lib.decDigits]
    split
    · next h =>
      have := parse_one M 0 u h (by omega) (by omega)
      simpa using this
    · next h =>
      rw [parseM_append M _ _ 0 (u / 10) (ih (u / 10) (by omega) (by omega)), parse_one M (u / 10) (u % 10) (by omega) (by omega) (by omega)]
      congr 1
      omega

theorem numP_itoa (n : Int) (h0 : -2147483648 ≤ n) (h1 : n ≤ 2147483647) : numP (Lib.itoa n) = n := by
  have hp : ∀ u : Nat, u ≤ 4294967295 → Lib.parseUintB 32 (Lib.decDigits u) = .ok u := by
    intro u hu
    unfold Lib.parseUintB
    rw [if_neg (dec_all u).2]
    exact parse_dec (2 ^ 32 - 1) (by decide) u (by simpa using hu)
  unfold numP Lib.itoa
  by_cases hn : n < 0
  · rw [if_pos hn, Lib.parseIntB_minus, hp n.natAbs (by omega)]
    simp only [Lib.signedC]
    rw [if_neg (by simp; omega)]
    simp only
    omega
  · rw [if_neg hn]
    have hd := dec_all n.toNat
    have hq := hp n.toNat (by omega)
    cases hl : Lib.decDigits n.toNat with
    | nil => exact absurd hl hd.2
    | cons c r =>
      have hc := hd.1 c (by rw [hl]; simp)
      rw [hl] at hq
      rw [Lib.parseIntB_plain 32 c r (by omega) (by omega), hq]
      simp only [Lib.signlessC]
      rw [if_neg (by simp; omega)]
      simp only
      omega

theorem itoa_mem (n : Int) : ∀ b ∈ Lib.itoa n, b.toNat = 45 ∨ (48 ≤ b.toNat ∧ b.toNat ≤ 57) := by
  intro b hb
  unfold Lib.itoa at hb
  split at hb
  · rcases List.mem_cons.1 hb with rfl | hb
    · exact .inl rfl
    · exact .inr ((dec_all _).1 b hb)
  · exact .inr ((dec_all _).1 b hb)
theorem itoa_no (n : Int) (c : UInt8) (hc : c.toNat < 45 ∨ 57 < c.toNat) : c ∉ Lib.itoa n := fun h => by
  have := itoa_mem n c h
  omega

theorem trim_r (D : List UInt8) : Lib.trimPrefix (114 :: D) [114] = D := by simp [Lib.trimPrefix, Lib.hasPrefix, List.isPrefixOf]
theorem trim_no (l : List UInt8) (h : 114 ∉ l) : Lib.trimPrefix l [114] = l := by
  unfold Lib.trimPrefix Lib.hasPrefix
  cases l with
  | nil => simp [List.isPrefixOf]
  | cons c r =>
    have hc : ¬ (114 : UInt8) = c := fun e => h (by simp [e])
    simp [List.isPrefixOf, hc]

/-! ### Texts of instructions -/
def partW (D A B I : List UInt8) (c : UInt8) : List UInt8 := if c = 100 then 114 :: D else if c = 97 then 114 :: A else if c = 98 then 114 :: B else I

theorem txL_cons (D A B I : List UInt8) (c : UInt8) (p : List UInt8) : txL D A B I (c :: p) = 32 :: (partW D A B I c ++ txL D A B I p) := by
  simp only [txL, partW]
  repeat' split
  all_goals simp

theorem parts_txt (D A B I : List UInt8) (hD : 32 ∉ D) (hA : 32 ∉ A) (hB : 32 ∉ B) (hI : 32 ∉ I) : ∀ (p w : List UInt8), 32 ∉ w → parts (w ++ txL D A B I p) [32] = w :: p.map (partW D A B I)
  | [], w, hw => by simpa [txL] using parts_miss 32 w hw
  | c :: p, w, hw => by
    have hp : 32 ∉ partW D A B I c := by
      unfold partW
      repeat' split
      · simpa using hD
      · simpa using hA
      · simpa using hB
      · exact hI
    rw [txL_cons, parts_hit 32 w _ hw, parts_txt D A B I hD hA hB hI p _ hp, List.map_cons]

/-- A text is an instruction's that may be. -/
def IsIns (s : List UInt8) (op d a b i : Int) : Prop := MayF op d a b i (frm op).1 (frm op).2 ∧ txt op d a b i = s

theorem frm_no {op : Int} (h : 1 ≤ op ∧ op ≤ 17) : (32 : UInt8) ∉ (frm op).1 ∧ (10 : UInt8) ∉ (frm op).1 := by
  rcases ops_cases op with (rfl | rfl | rfl | rfl | rfl | rfl | rfl | rfl | rfl | rfl | rfl | rfl | rfl | rfl | rfl | rfl | rfl) | h'
  iterate 17 exact ⟨by simp [frm], by simp [frm]⟩
  omega

theorem ins_parts {s : List UInt8} {op d a b i : Int} (h : IsIns s op d a b i) : parts s [32] = (frm op).1 :: (frm op).2.map (partW (Lib.itoa d) (Lib.itoa a) (Lib.itoa b) (Lib.itoa i)) ∧
    insK ((frm op).1 :: (frm op).2.map (partW (Lib.itoa d) (Lib.itoa a) (Lib.itoa b) (Lib.itoa i))) (frm op).2 (frm op).2.length = (d, a, b, i) := by
  obtain ⟨hm, rfl⟩ := h
  obtain ⟨ho, hd, ha, hb, hi⟩ := may_range hm
  have no : ∀ n, (32 : UInt8) ∉ Lib.itoa n := fun n => itoa_no n 32 (by decide)
  refine ⟨parts_txt _ _ _ _ (no d) (no a) (no b) (no i) _ _ (frm_no ho).1, ?_⟩
  have nd := numP_itoa d (by omega) (by omega)
  have na := numP_itoa a (by omega) (by omega)
  have nb := numP_itoa b (by omega) (by omega)
  have ni := numP_itoa i (by omega) (by omega)
  have ti := trim_no (Lib.itoa i) (itoa_no i 114 (by decide))
  obtain ⟨_, md, ma, mb, _, _, mi⟩ := hm
  unfold RegOk at md ma mb
  rcases ops_cases op with (rfl | rfl | rfl | rfl | rfl | rfl | rfl | rfl | rfl | rfl | rfl | rfl | rfl | rfl | rfl | rfl | rfl) | h'
  iterate 17
    simp [frm, Lib.indexByte] at md ma mb mi
    simp [frm, insK, stepI, partW, trim_r, ti, nd, na, nb, ni, List.getD]
    try omega
  omega

theorem ins_unique {s : List UInt8} {op d a b i op' d' a' b' i' : Int} (h : IsIns s op d a b i) (h' : IsIns s op' d' a' b' i') : op = op' ∧ d = d' ∧ a = a' ∧ b = b' ∧ i = i' := by
  obtain ⟨p1, q1⟩ := ins_parts h
  obtain ⟨p2, q2⟩ := ins_parts h'
  have e := p1.symm.trans p2
  have ho : op = op' := frm_inj (may_range h.1).1 (may_range h'.1).1 (List.cons.inj e).1
  subst ho
  rw [e, q2] at q1
  simp only [Prod.mk.injEq] at q1
  exact ⟨rfl, q1.1.symm, q1.2.1.symm, q1.2.2.1.symm, q1.2.2.2.symm⟩

/-- An instruction's text is read as it. -/
theorem untext_is {s : List UInt8} (hs : s.length ≤ 20000) {op d a b i : Int} (h : IsIns s op d a b i) :
    ACall cx 31 [.str s, .map 0] [.mpx FORMS 17] (.tup [.agg [.int .i64 op, .int .i64 d, .int .i64 a, .int .i64 b, .int .i64 i], .bool true]) [.mpx FORMS 17] := by
  obtain ⟨p1, q1⟩ := ins_parts h
  have hz := parts_sizes s [32]
  rw [p1] at hz
  exact untext_hit s hs op (may_range h.1).1 _ p1 (by simp) (fun x hx => Nat.le_trans (hz x (List.mem_cons_of_mem _ hx)) hs) d a b i true q1 (decide_eq_true (p := MayF op d a b i (frm op).1 (frm op).2 ∧ txt op d a b i = s) h).symm

/-- A text that is no instruction's is refused. -/
theorem untext_no {s : List UInt8} (hs : s.length ≤ 20000) (h : ∀ op d a b i, ¬ IsIns s op d a b i) :
    ∃ op d a b i : Int, ACall cx 31 [.str s, .map 0] [.mpx FORMS 17] (.tup [.agg [.int .i64 op, .int .i64 d, .int .i64 a, .int .i64 b, .int .i64 i], .bool false]) [.mpx FORMS 17] := by
  obtain ⟨w0, wr, hw, hl⟩ := parts_len s [32] (by decide)
  have hz := parts_sizes s [32]
  rw [hw] at hz
  by_cases hh : ∃ op : Int, (1 ≤ op ∧ op ≤ 17) ∧ (frm op).1 = w0 ∧ wr.length = (frm op).2.length
  · obtain ⟨op, ho, rfl, hwl⟩ := hh
    obtain ⟨d, a, b, i, hq⟩ : ∃ d a b i, insK ((frm op).1 :: wr) (frm op).2 (frm op).2.length = (d, a, b, i) := ⟨_, _, _, _, rfl⟩
    exact ⟨op, d, a, b, i, untext_hit s hs op ho wr hw hwl (fun x hx => Nat.le_trans (hz x (List.mem_cons_of_mem _ hx)) hs) d a b i false hq (decide_eq_false (p := MayF op d a b i (frm op).1 (frm op).2 ∧ txt op d a b i = s) (h op d a b i)).symm⟩
  · exact ⟨0, 0, 0, 0, 0, untext_miss s hs w0 wr hw (by omega) fun op ho k => hh ⟨op, ho, k.1, k.2⟩⟩
end Go.Am
end
section
set_option linter.unusedVariables false
set_option linter.unusedSimpArgs false
namespace Go.Am
open Go Go.Proofs
set_option linter.unusedSimpArgs false
set_option linter.unusedVariables false
set_option maxHeartbeats 8000000
set_option maxRecDepth 100000
attribute [local irreducible] aC aL thenQ blockQ scopeQ ALoop AWp

theorem untext_lend {s : List UInt8} {r : AVal} (h : ACall cx 31 [.str s, .map 0] [.mpx FORMS 17] r [.mpx FORMS 17]) (hr : plainV r = true) {S : St} {i : Nat} (hS : S[i]? = some (.mpx FORMS 17)) :
    ACall cx 31 [.str s, .map i] S r S :=
  ACall.lendX cxG h (by kernel_rfl) hr hS rfl fun j h1 h0 => by
    match j, h1 with
    | 0, _ => exact .inl ⟨rfl, rfl⟩
    | 1, _ => exact .inr ⟨rfl, rfl⟩

theorem cpu_Untext (s : List UInt8) (hs : s.length ≤ 20000) (r : AVal) (hr : (∃ op d a b i : Int, IsIns s op d a b i ∧ r = .tup [.agg [.int .i64 op, .int .i64 d, .int .i64 a, .int .i64 b, .int .i64 i], .int .i64 0]) ∨
    ((∀ op d a b i, ¬ IsIns s op d a b i) ∧ r = .tup [.agg [.int .i64 0, .int .i64 0, .int .i64 0, .int .i64 0, .int .i64 0], .int .i64 4])) :
    APure cx 13 [.str s] r := by
  rcases hr with ⟨op, d, a, b, i, h, rfl⟩ | ⟨h, rfl⟩
  case' inl =>
    have hc := untext_lend (S := [.cells [.int .i64 0, .int .i64 0, .int .i64 0, .int .i64 0, .int .i64 0] 26] ++ [.mpx FORMS 17]) (i := 1) (untext_is hs h) rfl rfl
  case' inr =>
    obtain ⟨op, d, a, b, i, h2⟩ := untext_no hs h
    have hc := untext_lend (S := [.cells [.int .i64 0, .int .i64 0, .int .i64 0, .int .i64 0, .int .i64 0] 26] ++ [.mpx FORMS 17]) (i := 1) h2 rfl rfl
    clear h2
  all_goals
  clear h
  refine pure_fn cxOk Tryd.func13 (by kernel_rfl) (fun _ => false) (fun _ => none) (by kernel_rfl) (Nat.le_of_ble_eq_true (by kernel_rfl)) ?_
  dsimp only [LB, Tryd.f13, lite, nextOf, Option.isNone, Bool.not_true, Bool.not_false, Bool.and_true, Bool.true_and, Bool.false_and, Bool.and_self, Bool.false_eq_true, if_false, if_true, ↓reduceIte, liteO, List.map, Option.map, frame0, List.zipIdx, Nat.reduceAdd]
  try simp only [List.getElem?_toArray, List.getElem?_cons_succ, List.getElem?_cons_zero, Option.bind_some]
  repeat' (first
    | refine aC_seq ?_
    | refine aC_reg rfl ?_
    | refine aC_block ?_
    | refine aC_skip ?_
    | refine aC_loop ?_
    | refine aC_scope ?_
    | refine scopeQ_normal ?_
    | refine scopeQ_exit ?_
    | refine scopeQ_ret ?_
    | refine aC_exit ?_
    | refine aC_ret ?_
    | refine thenQ_normal ?_
    | refine blockQ_normal ?_
    | refine thenQ_ret ?_
    | refine blockQ_ret ?_
    | refine thenQ_exit ?_
    | refine blockQ_hit ?_
    | refine blockQ_miss rfl ?_
    | refine aL_nil ?_
    | (apply aL_step; (· exact True.intro); (· simp (disch := first | omega | (simp only [go_sem]; omega)) only [go_sem, get_miss, seval, reduceCtorEq]); (· simp (disch := first | omega | (simp only [go_sem]; omega)) only [go_sem, get_miss, seval, reduceCtorEq] <;> with_reducible rfl); (· simp only [go_sem] <;> with_reducible rfl))
    | (refine aL_skip ?_ (by simp only [go_sem] <;> with_reducible rfl) ?_; (· simp (disch := first | omega | (simp only [go_sem]; omega)) only [go_sem, get_miss, seval, reduceCtorEq]))
    | (apply aL_guardN; (· simp (disch := first | omega | (simp only [go_sem]; omega)) only [go_sem, get_miss, seval, reduceCtorEq] <;> with_reducible rfl); all_goals (intro h; first | (exfalso; omega) | (simp only [h, decide_true, decide_false, not_true, not_false_iff])))
    | (apply aL_guardP; (· simp (disch := first | omega | (simp only [go_sem]; omega)) only [go_sem, get_miss, seval, reduceCtorEq] <;> with_reducible rfl); all_goals (intro h; first | (exfalso; omega) | (simp only [h, decide_true, decide_false, not_true, not_false_iff])))
    | (refine aC_condT ?_ ?_; (· simp (disch := first | omega | (simp only [go_sem]; omega)) only [go_sem, get_miss, seval, reduceCtorEq]))
    | (refine aC_condF ?_ ?_; (· simp (disch := first | omega | (simp only [go_sem]; omega)) only [go_sem, get_miss, seval, reduceCtorEq]))
    | (refine aC_condP (by simp (disch := first | omega | (simp only [go_sem]; omega)) only [go_sem, get_miss, seval, reduceCtorEq] <;> with_reducible rfl) ?_ ?_ <;> (intro h; first | (exfalso; omega) | skip))
    | (apply aL_acall (cpu_forms _); (case hg => (simp (disch := first | omega | (simp only [go_sem]; omega)) only [go_sem, get_miss, seval, reduceCtorEq])); (case hx => (simp (disch := first | omega | (simp only [go_sem]; omega)) only [go_sem, get_miss, seval, reduceCtorEq] <;> with_reducible rfl)); (case ha => (simp (disch := first | omega | (simp only [go_sem]; omega)) only [go_sem, get_miss, seval, reduceCtorEq] <;> with_reducible rfl)); (case he => (with_reducible rfl)); (case hp => (rfl)); (case hf => (simp only [go_sem] <;> with_reducible rfl)))
    | (apply aL_acall (hc); (case hg => (simp (disch := first | omega | (simp only [go_sem]; omega)) only [go_sem, get_miss, seval, reduceCtorEq])); (case hx => (simp (disch := first | omega | (simp only [go_sem]; omega)) only [go_sem, get_miss, seval, reduceCtorEq] <;> with_reducible rfl)); (case ha => (simp (disch := first | omega | (simp only [go_sem]; omega)) only [go_sem, get_miss, seval, reduceCtorEq] <;> with_reducible rfl)); (case he => (with_reducible rfl)); (case hp => (rfl)); (case hf => (simp only [go_sem] <;> with_reducible rfl)))
    | fail)
  all_goals try (first | exact True.intro | omega)
  all_goals try (simp (disch := first | omega | (simp only [go_sem]; omega)) only [go_sem, get_miss, seval, reduceCtorEq] <;> first | exact True.intro | omega)
  all_goals (clear hc)
  all_goals try (simp (disch := first | omega | (simp only [go_sem]; omega)) only [go_sem, get_miss, seval, reduceCtorEq])
  all_goals try simp

end Go.Am
end
