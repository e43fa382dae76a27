/- cpu.untext: the instruction of a text, by the table. -/
import Derived.Test.YtbkfnbnechpolaaDoorC22
import Derived.Test.YtbkfnbnechpolaaDoorC24
import Derived.Test.YtbkfnbnechpolaaDoorAmWalkD
set_option linter.unusedVariables false
set_option linter.unusedSimpArgs false
namespace Go.Am
open Go Go.Proofs
set_option linter.unusedSimpArgs false
set_option linter.unusedVariables false
set_option maxHeartbeats 8000000
set_option maxRecDepth 100000
attribute [local irreducible] aC aL thenQ blockQ scopeQ ALoop AWp

theorem forms_mem {e : AVal × AVal} (h : e ∈ FORMS) : ∃ op : Int, (1 ≤ op ∧ op ≤ 17) ∧ e = (.int .i64 op, .agg [.str (frm op).1, .str (frm op).2]) := by
  unfold FORMS at h
  simp only [List.mem_cons, List.not_mem_nil, or_false] at h
  rcases h with h | h | h | h | h | h | h | h | h | h | h | h | h | h | h | h | h <;> subst h
  · exact ⟨1, by decide, rfl⟩
  · exact ⟨2, by decide, rfl⟩
  · exact ⟨3, by decide, rfl⟩
  · exact ⟨11, by decide, rfl⟩
  · exact ⟨12, by decide, rfl⟩
  · exact ⟨13, by decide, rfl⟩
  · exact ⟨14, by decide, rfl⟩
  · exact ⟨15, by decide, rfl⟩
  · exact ⟨16, by decide, rfl⟩
  · exact ⟨17, by decide, rfl⟩
  · exact ⟨4, by decide, rfl⟩
  · exact ⟨5, by decide, rfl⟩
  · exact ⟨6, by decide, rfl⟩
  · exact ⟨7, by decide, rfl⟩
  · exact ⟨8, by decide, rfl⟩
  · exact ⟨9, by decide, rfl⟩
  · exact ⟨10, by decide, rfl⟩

theorem forms_has {op : Int} (h : 1 ≤ op ∧ op ≤ 17) : ((.int .i64 op, .agg [.str (frm op).1, .str (frm op).2]) : AVal × AVal) ∈ FORMS := by
  rcases ops_cases op with (rfl | rfl | rfl | rfl | rfl | rfl | rfl | rfl | rfl | rfl | rfl | rfl | rfl | rfl | rfl | rfl | rfl) | h'
  iterate 17 (simp only [FORMS, fm, frm, List.mem_cons]; simp)
  omega

theorem frm_fin : ∀ i j : Fin 17, (frm ((i.val : Int) + 1)).1 = (frm ((j.val : Int) + 1)).1 → i = j := by decide +kernel
theorem frm_inj {a b : Int} (ha : 1 ≤ a ∧ a ≤ 17) (hb : 1 ≤ b ∧ b ≤ 17) (h : (frm a).1 = (frm b).1) : a = b := by
  have := frm_fin ⟨(a - 1).toNat, by omega⟩ ⟨(b - 1).toNat, by omega⟩ (by
    rw [show (((a - 1).toNat : Nat) : Int) + 1 = a by omega, show (((b - 1).toNat : Nat) : Int) + 1 = b by omega]; exact h)
  have := congrArg Fin.val this
  simp only at this
  omega

/-- What the parts of a text say, of a form. -/
def stepI (q : Int × Int × Int × Int) (c : UInt8) (n : Int) : Int × Int × Int × Int :=
  if c = 100 then (n, q.2.1, q.2.2.1, q.2.2.2) else if c = 97 then (q.1, n, q.2.2.1, q.2.2.2) else if c = 98 then (q.1, q.2.1, n, q.2.2.2) else (q.1, q.2.1, q.2.2.1, n)
def insK (ws : List (List UInt8)) (p : List UInt8) : Nat → Int × Int × Int × Int
  | 0 => (0, 0, 0, 0)
  | k + 1 => stepI (insK ws p k) (p.getD k 0) (numP (Lib.trimPrefix (ws.getD (1 + k) []) [114]))
def hitO (ws : List (List UInt8)) (op : Int) : Prop := (frm op).1 = ws.getD 0 [] ∧ ws.length = 1 + (frm op).2.length

theorem bels_str (n : Nat) (ws : List (List UInt8)) : bels n (ws.map AVal.str) = true :=
  bels_iff.2 (by intro x hx; obtain ⟨y, _, rfl⟩ := List.mem_map.1 hx; rfl)

theorem untext_miss (s : List UInt8) (hs : s.length ≤ 20000) (w0 : List UInt8) (wr : List (List UInt8)) (hw : parts s [32] = w0 :: wr) (hwl : wr.length ≤ 20000) (hm : ∀ op : Int, 1 ≤ op ∧ op ≤ 17 → ¬ ((frm op).1 = w0 ∧ wr.length = (frm op).2.length)) :
    ACall cx 31 [.str s, .map 0] [.mpx FORMS 17] (.tup [.agg [.int .i64 0, .int .i64 0, .int .i64 0, .int .i64 0, .int .i64 0], .bool false]) [.mpx FORMS 17] := by
  have hsp := a_split s [32] (by omega) (by decide)
  rw [hw] at hsp
  simp only [List.map_cons] at hsp
  have hml : maxLen = 9223372036854775807 := rfl
  have key : ACall cx 31 [.str s, .map 0] [.mpx FORMS 17] (.tup [.agg [.int .i64 0, .int .i64 0, .int .i64 0, .int .i64 0, .int .i64 0], .bool false])
      [.mpx FORMS 17, .cells [.int .i64 0, .int .i64 0, .int .i64 0, .int .i64 0, .int .i64 0] 26, .frz none] := by
    refine acall_fn cxOk Tryd.func31 (by kernel_rfl) (fun _ => false) (fe31.q) (by kernel_rfl) (Nat.le_of_ble_eq_true (by kernel_rfl)) ?_
    dsimp only [LB, Tryd.f31, lite, nextOf, Option.isNone, Bool.not_true, Bool.not_false, Bool.and_true, Bool.true_and, Bool.false_and, Bool.and_self, Bool.false_eq_true, if_false, if_true, ↓reduceIte, liteO, List.map, Option.map, frame0, List.zipIdx, Nat.reduceAdd]
    try simp only [List.getElem?_toArray, List.getElem?_cons_succ, List.getElem?_cons_zero, Option.bind_some]
    repeat' (first
      | refine aC_seq ?_
      | refine aC_reg rfl ?_
      | refine aC_block ?_
      | refine aC_skip ?_
      | refine aC_loop ?_
      | refine aC_scope ?_
      | refine scopeQ_normal ?_
      | refine scopeQ_exit ?_
      | refine scopeQ_ret ?_
      | refine aC_exit ?_
      | refine aC_ret ?_
      | refine thenQ_normal ?_
      | refine blockQ_normal ?_
      | refine thenQ_ret ?_
      | refine blockQ_ret ?_
      | refine thenQ_exit ?_
      | refine blockQ_hit ?_
      | refine blockQ_miss rfl ?_
      | refine aL_nil ?_
      | (apply aL_step; (· exact True.intro); (· simp (disch := first | omega | (simp only [go_sem]; omega)) only [go_sem, get_miss, seval, reduceCtorEq, aStep_rangeS, aRange]); (· simp (disch := first | omega | (simp only [go_sem]; omega)) only [go_sem, get_miss, seval, reduceCtorEq, aStep_rangeS, aRange] <;> with_reducible rfl); (· simp only [go_sem] <;> with_reducible rfl))
      | (refine aL_skip ?_ (by simp only [go_sem] <;> with_reducible rfl) ?_; (· simp (disch := first | omega | (simp only [go_sem]; omega)) only [go_sem, get_miss, seval, reduceCtorEq, aStep_rangeS, aRange]))
      | (apply aL_guardN; (· simp (disch := first | omega | (simp only [go_sem]; omega)) only [go_sem, get_miss, seval, reduceCtorEq, aStep_rangeS, aRange] <;> with_reducible rfl); all_goals (intro h; first | (exfalso; omega) | (simp only [h, decide_true, decide_false, not_true, not_false_iff])))
      | (apply aL_guardP; (· simp (disch := first | omega | (simp only [go_sem]; omega)) only [go_sem, get_miss, seval, reduceCtorEq, aStep_rangeS, aRange] <;> with_reducible rfl); all_goals (intro h; first | (exfalso; omega) | (simp only [h, decide_true, decide_false, not_true, not_false_iff])))
      | (refine aC_condT ?_ ?_; (· simp (disch := first | omega | (simp only [go_sem]; omega)) only [go_sem, get_miss, seval, reduceCtorEq, aStep_rangeS, aRange]))
      | (refine aC_condF ?_ ?_; (· simp (disch := first | omega | (simp only [go_sem]; omega)) only [go_sem, get_miss, seval, reduceCtorEq, aStep_rangeS, aRange]))
      | (refine aC_condP (by simp (disch := first | omega | (simp only [go_sem]; omega)) only [go_sem, get_miss, seval, reduceCtorEq, aStep_rangeS, aRange] <;> with_reducible rfl) ?_ ?_ <;> (intro h; first | (exfalso; omega) | skip))
      | (apply aL_pure cxG (hsp); (case hg => (simp (disch := first | omega | (simp only [go_sem]; omega)) only [go_sem, get_miss, seval, reduceCtorEq, aStep_rangeS, aRange])); (case hx => (simp (disch := first | omega | (simp only [go_sem]; omega)) only [go_sem, get_miss, seval, reduceCtorEq, aStep_rangeS, aRange] <;> with_reducible rfl)); (case ha => (simp (disch := first | omega | (simp only [go_sem]; omega)) only [go_sem, get_miss, seval, reduceCtorEq, aStep_rangeS, aRange] <;> with_reducible rfl)); (case he => (simp only [go_sem] <;> with_reducible rfl)); (case hcl => (simp)); (case hf => (simp only [go_sem] <;> with_reducible rfl)))
      | fail)
    · refine any_rule (k := 2) (mi := 0) (since := 17) (last := 17) (clock := 17) (z := .mpx FORMS 17) (ps := FORMS) (fr0 := [(6, .sl 1 false (.str w0 :: wr.map .str) .full), (16, .ptr 2 0), (4, .ptr 1 0), (0, .str s)])
        (Sf := [.frz (some FORMS), .cells [.int .i64 0, .int .i64 0, .int .i64 0, .int .i64 0, .int .i64 0] 26, .frz none]) (cxOk.wp _ _) (cxG.wp _ _) (fun _ => true) none (by intro k hk; injection hk with hk; subst hk; decide) (by intro k hk; injection hk with hk; subst hk; decide)
        (Sub.of_all (by simp [Fr.get])) rfl rfl rfl (.inl rfl) (by decide) rfl (by kernel_rfl) (by kernel_rfl) (by simp [belF, bel, bels, bels_str, belT]) ?hD (.inl rfl) ?hr (fun _ _ _ h => by cases h)
      case hD =>
        repeat' (first
          | refine aC_seq ?_
          | refine aC_reg rfl ?_
          | refine aC_block ?_
          | refine aC_skip ?_
          | refine aC_loop ?_
          | refine aC_scope ?_
          | refine scopeQ_normal ?_
          | refine scopeQ_exit ?_
          | refine scopeQ_ret ?_
          | refine aC_exit ?_
          | refine aC_ret ?_
          | refine thenQ_normal ?_
          | refine blockQ_normal ?_
          | refine thenQ_ret ?_
          | refine blockQ_ret ?_
          | refine thenQ_exit ?_
          | refine blockQ_hit ?_
          | refine blockQ_miss rfl ?_
          | refine aL_nil ?_
          | (apply aL_step; (· exact True.intro); (· simp (disch := first | omega | (simp only [go_sem]; omega)) only [go_sem, get_miss, seval, reduceCtorEq]); (· simp (disch := first | omega | (simp only [go_sem]; omega)) only [go_sem, get_miss, seval, reduceCtorEq] <;> with_reducible rfl); (· simp only [go_sem] <;> with_reducible rfl))
          | (refine aL_skip ?_ (by simp only [go_sem] <;> with_reducible rfl) ?_; (· simp (disch := first | omega | (simp only [go_sem]; omega)) only [go_sem, get_miss, seval, reduceCtorEq]))
          | (apply aL_guardN; (· simp (disch := first | omega | (simp only [go_sem]; omega)) only [go_sem, get_miss, seval, reduceCtorEq] <;> with_reducible rfl); all_goals (intro h; first | (exfalso; omega) | (simp only [h, decide_true, decide_false, not_true, not_false_iff])))
          | (apply aL_guardP; (· simp (disch := first | omega | (simp only [go_sem]; omega)) only [go_sem, get_miss, seval, reduceCtorEq] <;> with_reducible rfl); all_goals (intro h; first | (exfalso; omega) | (simp only [h, decide_true, decide_false, not_true, not_false_iff])))
          | (refine aC_condT ?_ ?_; (· simp (disch := first | omega | (simp only [go_sem]; omega)) only [go_sem, get_miss, seval, reduceCtorEq]))
          | (refine aC_condF ?_ ?_; (· simp (disch := first | omega | (simp only [go_sem]; omega)) only [go_sem, get_miss, seval, reduceCtorEq]))
          | (refine aC_condP (by simp (disch := first | omega | (simp only [go_sem]; omega)) only [go_sem, get_miss, seval, reduceCtorEq] <;> with_reducible rfl) ?_ ?_ <;> (intro h; first | (exfalso; omega) | skip))
          | fail)
        all_goals try trivial
        refine ⟨rfl, rfl, fun _ => ?_⟩
        repeat' (first
          | refine aC_seq ?_
          | refine aC_reg rfl ?_
          | refine aC_block ?_
          | refine aC_skip ?_
          | refine aC_loop ?_
          | refine aC_scope ?_
          | refine scopeQ_normal ?_
          | refine scopeQ_exit ?_
          | refine scopeQ_ret ?_
          | refine aC_exit ?_
          | refine aC_ret ?_
          | refine thenQ_normal ?_
          | refine blockQ_normal ?_
          | refine thenQ_ret ?_
          | refine blockQ_ret ?_
          | refine thenQ_exit ?_
          | refine blockQ_hit ?_
          | refine blockQ_miss rfl ?_
          | refine aL_nil ?_
          | (apply aL_step; (· exact True.intro); (· simp (disch := first | omega | (simp only [go_sem]; omega)) only [go_sem, get_miss, seval, reduceCtorEq]); (· simp (disch := first | omega | (simp only [go_sem]; omega)) only [go_sem, get_miss, seval, reduceCtorEq] <;> with_reducible rfl); (· simp only [go_sem] <;> with_reducible rfl))
          | (refine aL_skip ?_ (by simp only [go_sem] <;> with_reducible rfl) ?_; (· simp (disch := first | omega | (simp only [go_sem]; omega)) only [go_sem, get_miss, seval, reduceCtorEq]))
          | (apply aL_guardN; (· simp (disch := first | omega | (simp only [go_sem]; omega)) only [go_sem, get_miss, seval, reduceCtorEq] <;> with_reducible rfl); all_goals (intro h; first | (exfalso; omega) | (simp only [h, decide_true, decide_false, not_true, not_false_iff])))
          | (apply aL_guardP; (· simp (disch := first | omega | (simp only [go_sem]; omega)) only [go_sem, get_miss, seval, reduceCtorEq] <;> with_reducible rfl); all_goals (intro h; first | (exfalso; omega) | (simp only [h, decide_true, decide_false, not_true, not_false_iff])))
          | (refine aC_condT ?_ ?_; (· simp (disch := first | omega | (simp only [go_sem]; omega)) only [go_sem, get_miss, seval, reduceCtorEq]))
          | (refine aC_condF ?_ ?_; (· simp (disch := first | omega | (simp only [go_sem]; omega)) only [go_sem, get_miss, seval, reduceCtorEq]))
          | (refine aC_condP (by simp (disch := first | omega | (simp only [go_sem]; omega)) only [go_sem, get_miss, seval, reduceCtorEq] <;> with_reducible rfl) ?_ ?_ <;> (intro h; first | (exfalso; omega) | skip))
          | fail)
        all_goals try (first | exact True.intro | omega)
        all_goals try (simp (disch := first | omega | (simp only [go_sem]; omega)) only [go_sem, get_miss, seval, reduceCtorEq] <;> first | exact True.intro | omega)
        all_goals try (simp (disch := first | omega | (simp only [go_sem]; omega)) only [go_sem, get_miss, seval, reduceCtorEq])
        all_goals try simp
      case hr =>
        intro e he
        obtain ⟨op, ho, rfl⟩ := forms_mem he
        obtain ⟨_, hp3, _⟩ := frm_parts ho
        have hmo := hm op ho
        repeat' (first
          | refine aC_seq ?_
          | refine aC_reg rfl ?_
          | refine aC_block ?_
          | refine aC_skip ?_
          | refine aC_loop ?_
          | refine aC_scope ?_
          | refine scopeQ_normal ?_
          | refine scopeQ_exit ?_
          | refine scopeQ_ret ?_
          | refine aC_exit ?_
          | refine aC_ret ?_
          | refine thenQ_normal ?_
          | refine blockQ_normal ?_
          | refine thenQ_ret ?_
          | refine blockQ_ret ?_
          | refine thenQ_exit ?_
          | refine blockQ_hit ?_
          | refine blockQ_miss rfl ?_
          | refine aL_nil ?_
          | (apply aL_step; (· exact True.intro); (· simp (disch := first | omega | (simp only [go_sem]; omega)) only [go_sem, get_miss, seval, reduceCtorEq]); (· simp (disch := first | omega | (simp only [go_sem]; omega)) only [go_sem, get_miss, seval, reduceCtorEq] <;> with_reducible rfl); (· simp only [go_sem] <;> with_reducible rfl))
          | (refine aL_skip ?_ (by simp only [go_sem] <;> with_reducible rfl) ?_; (· simp (disch := first | omega | (simp only [go_sem]; omega)) only [go_sem, get_miss, seval, reduceCtorEq]))
          | (apply aL_guardN; (· simp (disch := first | omega | (simp only [go_sem]; omega)) only [go_sem, get_miss, seval, reduceCtorEq] <;> with_reducible rfl); all_goals (intro h; first | (exfalso; omega) | (simp only [h, decide_true, decide_false, not_true, not_false_iff])))
          | (apply aL_guardP; (· simp (disch := first | omega | (simp only [go_sem]; omega)) only [go_sem, get_miss, seval, reduceCtorEq] <;> with_reducible rfl); all_goals (intro h; first | (exfalso; omega) | (simp only [h, decide_true, decide_false, not_true, not_false_iff])))
          | (refine aC_condT ?_ ?_; (· simp (disch := first | omega | (simp only [go_sem]; omega)) only [go_sem, get_miss, seval, reduceCtorEq]))
          | (refine aC_condF ?_ ?_; (· simp (disch := first | omega | (simp only [go_sem]; omega)) only [go_sem, get_miss, seval, reduceCtorEq]))
          | (refine aC_condP (by simp (disch := first | omega | (simp only [go_sem]; omega)) only [go_sem, get_miss, seval, reduceCtorEq] <;> with_reducible rfl) ?_ ?_ <;> (intro h; first | (exfalso; omega) | skip))
          | fail)
        all_goals try trivial
        refine ⟨rfl, rfl, rfl, ?_⟩
        generalize (frm op).1 = w at hmo ⊢
        generalize (frm op).2 = p at hp3 hmo ⊢
        repeat' (first
          | refine aC_seq ?_
          | refine aC_reg rfl ?_
          | refine aC_block ?_
          | refine aC_skip ?_
          | refine aC_loop ?_
          | refine aC_scope ?_
          | refine scopeQ_normal ?_
          | refine scopeQ_exit ?_
          | refine scopeQ_ret ?_
          | refine aC_exit ?_
          | refine aC_ret ?_
          | refine thenQ_normal ?_
          | refine blockQ_normal ?_
          | refine thenQ_ret ?_
          | refine blockQ_ret ?_
          | refine thenQ_exit ?_
          | refine blockQ_hit ?_
          | refine blockQ_miss rfl ?_
          | refine aL_nil ?_
          | (apply aL_step; (· exact True.intro); (· simp (disch := first | omega | (simp only [go_sem]; omega)) only [go_sem, get_miss, seval, reduceCtorEq]); (· simp (disch := first | omega | (simp only [go_sem]; omega)) only [go_sem, get_miss, seval, reduceCtorEq] <;> with_reducible rfl); (· simp only [go_sem] <;> with_reducible rfl))
          | (refine aL_skip ?_ (by simp only [go_sem] <;> with_reducible rfl) ?_; (· simp (disch := first | omega | (simp only [go_sem]; omega)) only [go_sem, get_miss, seval, reduceCtorEq]))
          | (apply aL_guardN; (· simp (disch := first | omega | (simp only [go_sem]; omega)) only [go_sem, get_miss, seval, reduceCtorEq] <;> with_reducible rfl); all_goals (intro h; first | (exfalso; omega) | (simp only [h, decide_true, decide_false, not_true, not_false_iff])))
          | (apply aL_guardP; (· simp (disch := first | omega | (simp only [go_sem]; omega)) only [go_sem, get_miss, seval, reduceCtorEq] <;> with_reducible rfl); all_goals (intro h; first | (exfalso; omega) | (simp only [h, decide_true, decide_false, not_true, not_false_iff])))
          | (refine aC_condT ?_ ?_; (· simp (disch := first | omega | (simp only [go_sem]; omega)) only [go_sem, get_miss, seval, reduceCtorEq]))
          | (refine aC_condF ?_ ?_; (· simp (disch := first | omega | (simp only [go_sem]; omega)) only [go_sem, get_miss, seval, reduceCtorEq]))
          | (refine aC_condP (by simp (disch := first | omega | (simp only [go_sem]; omega)) only [go_sem, get_miss, seval, reduceCtorEq] <;> with_reducible rfl) ?_ ?_ <;> (intro h; first | (exfalso; omega) | skip))
          | fail)
        all_goals try trivial
        refine ⟨.ext 1, [(6, .sl 1 false (.str w0 :: wr.map .str) .full), (16, .ptr 2 0), (4, .ptr 1 0), (0, .str s)], [.frz (some FORMS), .cells [.int .i64 0, .int .i64 0, .int .i64 0, .int .i64 0, .int .i64 0] 26, .frz none, .cells [.str w, .str p] 85], ?_, .inl ⟨rfl, .inr rfl, rfl, fun _ => .inr rfl⟩⟩
        by_cases hw0 : w = w0
        · have hne : wr.length ≠ p.length := fun h => hmo ⟨hw0, h⟩
          have hb : (w == w0) = true := by simp [hw0]
          repeat' (first
            | refine aC_seq ?_
            | refine aC_reg rfl ?_
            | refine aC_block ?_
            | refine aC_skip ?_
            | refine aC_loop ?_
            | refine aC_scope ?_
            | refine scopeQ_normal ?_
            | refine scopeQ_exit ?_
            | refine scopeQ_ret ?_
            | refine aC_exit ?_
            | refine aC_ret ?_
            | refine thenQ_normal ?_
            | refine blockQ_normal ?_
            | refine thenQ_ret ?_
            | refine blockQ_ret ?_
            | refine thenQ_exit ?_
            | refine blockQ_hit ?_
            | refine blockQ_miss rfl ?_
            | refine aL_nil ?_
            | (apply aL_step; (· exact True.intro); (· simp (disch := first | omega | (simp only [go_sem]; omega)) only [go_sem, get_miss, seval, reduceCtorEq, hb]); (· simp (disch := first | omega | (simp only [go_sem]; omega)) only [go_sem, get_miss, seval, reduceCtorEq, hb] <;> with_reducible rfl); (· simp only [go_sem] <;> with_reducible rfl))
            | (refine aL_skip ?_ (by simp only [go_sem] <;> with_reducible rfl) ?_; (· simp (disch := first | omega | (simp only [go_sem]; omega)) only [go_sem, get_miss, seval, reduceCtorEq, hb]))
            | (apply aL_guardN; (· simp (disch := first | omega | (simp only [go_sem]; omega)) only [go_sem, get_miss, seval, reduceCtorEq, hb] <;> with_reducible rfl); all_goals (intro h; first | (exfalso; omega) | (simp only [h, decide_true, decide_false, not_true, not_false_iff])))
            | (apply aL_guardP; (· simp (disch := first | omega | (simp only [go_sem]; omega)) only [go_sem, get_miss, seval, reduceCtorEq, hb] <;> with_reducible rfl); all_goals (intro h; first | (exfalso; omega) | (simp only [h, decide_true, decide_false, not_true, not_false_iff])))
            | (refine aC_condT ?_ ?_; (· simp (disch := first | omega | (simp only [go_sem]; omega)) only [go_sem, get_miss, seval, reduceCtorEq, hb]))
            | (refine aC_condF ?_ ?_; (· simp (disch := first | omega | (simp only [go_sem]; omega)) only [go_sem, get_miss, seval, reduceCtorEq, hb]))
            | (refine aC_condP (by simp (disch := first | omega | (simp only [go_sem]; omega)) only [go_sem, get_miss, seval, reduceCtorEq, hb] <;> with_reducible rfl) ?_ ?_ <;> (intro h; first | (exfalso; omega) | skip))
            | fail)
          all_goals try (first | exact True.intro | omega)
          all_goals try (simp (disch := first | omega | (simp only [go_sem]; omega)) only [go_sem, get_miss, seval, reduceCtorEq] <;> first | exact True.intro | omega)
          all_goals first | exact not_false | exact ⟨rfl, Sub.of_all (by simp [Fr.get]), rfl⟩
        · have hb : (w == w0) = false := by simp [hw0]
          repeat' (first
            | refine aC_seq ?_
            | refine aC_reg rfl ?_
            | refine aC_block ?_
            | refine aC_skip ?_
            | refine aC_loop ?_
            | refine aC_scope ?_
            | refine scopeQ_normal ?_
            | refine scopeQ_exit ?_
            | refine scopeQ_ret ?_
            | refine aC_exit ?_
            | refine aC_ret ?_
            | refine thenQ_normal ?_
            | refine blockQ_normal ?_
            | refine thenQ_ret ?_
            | refine blockQ_ret ?_
            | refine thenQ_exit ?_
            | refine blockQ_hit ?_
            | refine blockQ_miss rfl ?_
            | refine aL_nil ?_
            | (apply aL_step; (· exact True.intro); (· simp (disch := first | omega | (simp only [go_sem]; omega)) only [go_sem, get_miss, seval, reduceCtorEq, hb]); (· simp (disch := first | omega | (simp only [go_sem]; omega)) only [go_sem, get_miss, seval, reduceCtorEq, hb] <;> with_reducible rfl); (· simp only [go_sem] <;> with_reducible rfl))
            | (refine aL_skip ?_ (by simp only [go_sem] <;> with_reducible rfl) ?_; (· simp (disch := first | omega | (simp only [go_sem]; omega)) only [go_sem, get_miss, seval, reduceCtorEq, hb]))
            | (apply aL_guardN; (· simp (disch := first | omega | (simp only [go_sem]; omega)) only [go_sem, get_miss, seval, reduceCtorEq, hb] <;> with_reducible rfl); all_goals (intro h; first | (exfalso; omega) | (simp only [h, decide_true, decide_false, not_true, not_false_iff])))
            | (apply aL_guardP; (· simp (disch := first | omega | (simp only [go_sem]; omega)) only [go_sem, get_miss, seval, reduceCtorEq, hb] <;> with_reducible rfl); all_goals (intro h; first | (exfalso; omega) | (simp only [h, decide_true, decide_false, not_true, not_false_iff])))
            | (refine aC_condT ?_ ?_; (· simp (disch := first | omega | (simp only [go_sem]; omega)) only [go_sem, get_miss, seval, reduceCtorEq, hb]))
            | (refine aC_condF ?_ ?_; (· simp (disch := first | omega | (simp only [go_sem]; omega)) only [go_sem, get_miss, seval, reduceCtorEq, hb]))
            | (refine aC_condP (by simp (disch := first | omega | (simp only [go_sem]; omega)) only [go_sem, get_miss, seval, reduceCtorEq, hb] <;> with_reducible rfl) ?_ ?_ <;> (intro h; first | (exfalso; omega) | skip))
            | fail)
          all_goals try (first | exact True.intro | omega)
          all_goals try (simp (disch := first | omega | (simp only [go_sem]; omega)) only [go_sem, get_miss, seval, reduceCtorEq] <;> first | exact True.intro | omega)
          all_goals first | exact not_false | exact ⟨rfl, Sub.of_all (by simp [Fr.get]), rfl⟩
    all_goals try (first | exact True.intro | omega)
    all_goals try (simp (disch := first | omega | (simp only [go_sem]; omega)) only [go_sem, get_miss, seval, reduceCtorEq] <;> first | exact True.intro | omega)
  exact ACall.drop cxG key (n := 1) (by simp) rfl (by kernel_rfl)
theorem numP_range (l : List UInt8) : -2147483648 ≤ numP l ∧ numP l ≤ 2147483647 := by
  unfold numP
  split
  · next v h =>
    have := Lib.parseIntB_bounds h
    have e : ((2 ^ (32 - 1) : Nat) : Int) = 2147483648 := by decide
    rw [e] at this
    omega
  · omega
theorem stepI_range {q : Int × Int × Int × Int} (c : UInt8) {n : Int} (hn : -2147483648 ≤ n ∧ n ≤ 2147483647) (h : (-2147483648 ≤ q.1 ∧ q.1 ≤ 2147483647) ∧ (-2147483648 ≤ q.2.1 ∧ q.2.1 ≤ 2147483647) ∧ (-2147483648 ≤ q.2.2.1 ∧ q.2.2.1 ≤ 2147483647) ∧ -2147483648 ≤ q.2.2.2 ∧ q.2.2.2 ≤ 2147483647) :
    (-2147483648 ≤ (stepI q c n).1 ∧ (stepI q c n).1 ≤ 2147483647) ∧ (-2147483648 ≤ (stepI q c n).2.1 ∧ (stepI q c n).2.1 ≤ 2147483647) ∧ (-2147483648 ≤ (stepI q c n).2.2.1 ∧ (stepI q c n).2.2.1 ≤ 2147483647) ∧ -2147483648 ≤ (stepI q c n).2.2.2 ∧ (stepI q c n).2.2.2 ≤ 2147483647 := by
  unfold stepI
  split
  · exact ⟨hn, h.2⟩
  split
  · exact ⟨h.1, hn, h.2.2⟩
  split
  · exact ⟨h.1, h.2.1, hn, h.2.2.2⟩
  · exact ⟨h.1, h.2.1, h.2.2.1, hn⟩
theorem insK_range (ws : List (List UInt8)) (p : List UInt8) : ∀ k, (-2147483648 ≤ (insK ws p k).1 ∧ (insK ws p k).1 ≤ 2147483647) ∧ (-2147483648 ≤ (insK ws p k).2.1 ∧ (insK ws p k).2.1 ≤ 2147483647) ∧ (-2147483648 ≤ (insK ws p k).2.2.1 ∧ (insK ws p k).2.2.1 ≤ 2147483647) ∧ -2147483648 ≤ (insK ws p k).2.2.2 ∧ (insK ws p k).2.2.2 ≤ 2147483647
  | 0 => by simp [insK]
  | k + 1 => stepI_range _ (numP_range _) (insK_range ws p k)

theorem untext_hit (s : List UInt8) (hs : s.length ≤ 20000) (op0 : Int) (ho0 : 1 ≤ op0 ∧ op0 ≤ 17) (wr : List (List UInt8)) (hw : parts s [32] = (frm op0).1 :: wr) (hwl : wr.length = (frm op0).2.length) (hwp : ∀ x ∈ wr, x.length ≤ 20000) (d a b i : Int)
    (acc : Bool) (hq : insK ((frm op0).1 :: wr) (frm op0).2 (frm op0).2.length = (d, a, b, i)) (hacc : acc = decide (MayF op0 d a b i (frm op0).1 (frm op0).2 ∧ txt op0 d a b i = s)) :
    ACall cx 31 [.str s, .map 0] [.mpx FORMS 17] (.tup [.agg [.int .i64 op0, .int .i64 d, .int .i64 a, .int .i64 b, .int .i64 i], .bool acc]) [.mpx FORMS 17] := by
  have hsp := a_split s [32] (by omega) (by decide)
  rw [hw] at hsp
  simp only [List.map_cons] at hsp
  have hml : maxLen = 9223372036854775807 := rfl
  obtain ⟨_, hp3, hpc⟩ := frm_parts ho0
  have key : ACall cx 31 [.str s, .map 0] [.mpx FORMS 17] (.tup [.agg [.int .i64 op0, .int .i64 d, .int .i64 a, .int .i64 b, .int .i64 i], .bool acc])
      [.mpx FORMS 17, .cells [.int .i64 op0, .int .i64 d, .int .i64 a, .int .i64 b, .int .i64 i] 26, .frz none, .cells [.str (frm op0).1, .str (frm op0).2] 85, .cells [.int .i64 op0, .int .i64 d, .int .i64 a, .int .i64 b, .int .i64 i] 26, .siter (frm op0).2 (frm op0).2.length] := by
    refine acall_fn cxOk Tryd.func31 (by kernel_rfl) (fun _ => false) (fe31.q) (by kernel_rfl) (Nat.le_of_ble_eq_true (by kernel_rfl)) ?_
    dsimp only [LB, Tryd.f31, lite, nextOf, Option.isNone, Bool.not_true, Bool.not_false, Bool.and_true, Bool.true_and, Bool.false_and, Bool.and_self, Bool.false_eq_true, if_false, if_true, ↓reduceIte, liteO, List.map, Option.map, frame0, List.zipIdx, Nat.reduceAdd]
    try simp only [List.getElem?_toArray, List.getElem?_cons_succ, List.getElem?_cons_zero, Option.bind_some]
    repeat' (first
      | refine aC_seq ?_
      | refine aC_reg rfl ?_
      | refine aC_block ?_
      | refine aC_skip ?_
      | refine aC_loop ?_
      | refine aC_scope ?_
      | refine scopeQ_normal ?_
      | refine scopeQ_exit ?_
      | refine scopeQ_ret ?_
      | refine aC_exit ?_
      | refine aC_ret ?_
      | refine thenQ_normal ?_
      | refine blockQ_normal ?_
      | refine thenQ_ret ?_
      | refine blockQ_ret ?_
      | refine thenQ_exit ?_
      | refine blockQ_hit ?_
      | refine blockQ_miss rfl ?_
      | refine aL_nil ?_
      | (apply aL_step; (· exact True.intro); (· simp (disch := first | omega | (simp only [go_sem]; omega)) only [go_sem, get_miss, seval, reduceCtorEq, aStep_rangeS, aRange]); (· simp (disch := first | omega | (simp only [go_sem]; omega)) only [go_sem, get_miss, seval, reduceCtorEq, aStep_rangeS, aRange] <;> with_reducible rfl); (· simp only [go_sem] <;> with_reducible rfl))
      | (refine aL_skip ?_ (by simp only [go_sem] <;> with_reducible rfl) ?_; (· simp (disch := first | omega | (simp only [go_sem]; omega)) only [go_sem, get_miss, seval, reduceCtorEq, aStep_rangeS, aRange]))
      | (apply aL_guardN; (· simp (disch := first | omega | (simp only [go_sem]; omega)) only [go_sem, get_miss, seval, reduceCtorEq, aStep_rangeS, aRange] <;> with_reducible rfl); all_goals (intro h; first | (exfalso; omega) | (simp only [h, decide_true, decide_false, not_true, not_false_iff])))
      | (apply aL_guardP; (· simp (disch := first | omega | (simp only [go_sem]; omega)) only [go_sem, get_miss, seval, reduceCtorEq, aStep_rangeS, aRange] <;> with_reducible rfl); all_goals (intro h; first | (exfalso; omega) | (simp only [h, decide_true, decide_false, not_true, not_false_iff])))
      | (refine aC_condT ?_ ?_; (· simp (disch := first | omega | (simp only [go_sem]; omega)) only [go_sem, get_miss, seval, reduceCtorEq, aStep_rangeS, aRange]))
      | (refine aC_condF ?_ ?_; (· simp (disch := first | omega | (simp only [go_sem]; omega)) only [go_sem, get_miss, seval, reduceCtorEq, aStep_rangeS, aRange]))
      | (refine aC_condP (by simp (disch := first | omega | (simp only [go_sem]; omega)) only [go_sem, get_miss, seval, reduceCtorEq, aStep_rangeS, aRange] <;> with_reducible rfl) ?_ ?_ <;> (intro h; first | (exfalso; omega) | skip))
      | (apply aL_pure cxG (hsp); (case hg => (simp (disch := first | omega | (simp only [go_sem]; omega)) only [go_sem, get_miss, seval, reduceCtorEq, aStep_rangeS, aRange])); (case hx => (simp (disch := first | omega | (simp only [go_sem]; omega)) only [go_sem, get_miss, seval, reduceCtorEq, aStep_rangeS, aRange] <;> with_reducible rfl)); (case ha => (simp (disch := first | omega | (simp only [go_sem]; omega)) only [go_sem, get_miss, seval, reduceCtorEq, aStep_rangeS, aRange] <;> with_reducible rfl)); (case he => (simp only [go_sem] <;> with_reducible rfl)); (case hcl => (simp)); (case hf => (simp only [go_sem] <;> with_reducible rfl)))
      | fail)
    · refine any_rule (k := 2) (mi := 0) (since := 17) (last := 17) (clock := 17) (z := .mpx FORMS 17) (ps := FORMS) (fr0 := [(6, .sl 1 false (.str (frm op0).1 :: wr.map .str) .full), (16, .ptr 2 0), (4, .ptr 1 0), (0, .str s)])
        (Sf := [.frz (some FORMS), .cells [.int .i64 0, .int .i64 0, .int .i64 0, .int .i64 0, .int .i64 0] 26, .frz none]) (cxOk.wp _ _) (cxG.wp _ _) (fun e => @decide (e.1 ≠ .int .i64 op0) (Classical.propDecidable _))
        (some (.ret, [(5, .bool acc), (4, .ptr 1 0)], [.frz (some FORMS), .cells [.int .i64 op0, .int .i64 d, .int .i64 a, .int .i64 b, .int .i64 i] 26, .frz none, .cells [.str (frm op0).1, .str (frm op0).2] 85, .cells [.int .i64 op0, .int .i64 d, .int .i64 a, .int .i64 b, .int .i64 i] 26, .siter (frm op0).2 (frm op0).2.length]))
        (by intro k hk; injection hk with hk; subst hk; decide) (by intro k hk; injection hk with hk; subst hk; decide)
        (Sub.of_all (by simp [Fr.get])) rfl rfl rfl (.inl rfl) (by decide) rfl (by kernel_rfl) (by kernel_rfl) (by simp [belF, bel, bels, bels_str, belT]) ?hD (.inr ⟨_, forms_has ho0, by simp⟩) ?hr ?hf
      case hD =>
        repeat' (first
          | refine aC_seq ?_
          | refine aC_reg rfl ?_
          | refine aC_block ?_
          | refine aC_skip ?_
          | refine aC_loop ?_
          | refine aC_scope ?_
          | refine scopeQ_normal ?_
          | refine scopeQ_exit ?_
          | refine scopeQ_ret ?_
          | refine aC_exit ?_
          | refine aC_ret ?_
          | refine thenQ_normal ?_
          | refine blockQ_normal ?_
          | refine thenQ_ret ?_
          | refine blockQ_ret ?_
          | refine thenQ_exit ?_
          | refine blockQ_hit ?_
          | refine blockQ_miss rfl ?_
          | refine aL_nil ?_
          | (apply aL_step; (· exact True.intro); (· simp (disch := first | omega | (simp only [go_sem]; omega)) only [go_sem, get_miss, seval, reduceCtorEq]); (· simp (disch := first | omega | (simp only [go_sem]; omega)) only [go_sem, get_miss, seval, reduceCtorEq] <;> with_reducible rfl); (· simp only [go_sem] <;> with_reducible rfl))
          | (refine aL_skip ?_ (by simp only [go_sem] <;> with_reducible rfl) ?_; (· simp (disch := first | omega | (simp only [go_sem]; omega)) only [go_sem, get_miss, seval, reduceCtorEq]))
          | (apply aL_guardN; (· simp (disch := first | omega | (simp only [go_sem]; omega)) only [go_sem, get_miss, seval, reduceCtorEq] <;> with_reducible rfl); all_goals (intro h; first | (exfalso; omega) | (simp only [h, decide_true, decide_false, not_true, not_false_iff])))
          | (apply aL_guardP; (· simp (disch := first | omega | (simp only [go_sem]; omega)) only [go_sem, get_miss, seval, reduceCtorEq] <;> with_reducible rfl); all_goals (intro h; first | (exfalso; omega) | (simp only [h, decide_true, decide_false, not_true, not_false_iff])))
          | (refine aC_condT ?_ ?_; (· simp (disch := first | omega | (simp only [go_sem]; omega)) only [go_sem, get_miss, seval, reduceCtorEq]))
          | (refine aC_condF ?_ ?_; (· simp (disch := first | omega | (simp only [go_sem]; omega)) only [go_sem, get_miss, seval, reduceCtorEq]))
          | (refine aC_condP (by simp (disch := first | omega | (simp only [go_sem]; omega)) only [go_sem, get_miss, seval, reduceCtorEq] <;> with_reducible rfl) ?_ ?_ <;> (intro h; first | (exfalso; omega) | skip))
          | fail)
        all_goals try trivial
        exact ⟨rfl, rfl, fun h => by cases h⟩
      case hf =>
        intro x f T h
        injection h with h
        simp only [Prod.mk.injEq] at h
        obtain ⟨rfl, rfl, rfl⟩ := h
        simp only [XE.ex]
        repeat' (first
          | refine aC_seq ?_
          | refine aC_reg rfl ?_
          | refine aC_block ?_
          | refine aC_skip ?_
          | refine aC_loop ?_
          | refine aC_scope ?_
          | refine scopeQ_normal ?_
          | refine scopeQ_exit ?_
          | refine scopeQ_ret ?_
          | refine aC_exit ?_
          | refine aC_ret ?_
          | refine thenQ_normal ?_
          | refine blockQ_normal ?_
          | refine thenQ_ret ?_
          | refine blockQ_ret ?_
          | refine thenQ_exit ?_
          | refine blockQ_hit ?_
          | refine blockQ_miss rfl ?_
          | refine aL_nil ?_
          | (apply aL_step; (· exact True.intro); (· simp (disch := first | omega | (simp only [go_sem]; omega)) only [go_sem, get_miss, seval, reduceCtorEq]); (· simp (disch := first | omega | (simp only [go_sem]; omega)) only [go_sem, get_miss, seval, reduceCtorEq] <;> with_reducible rfl); (· simp only [go_sem] <;> with_reducible rfl))
          | (refine aL_skip ?_ (by simp only [go_sem] <;> with_reducible rfl) ?_; (· simp (disch := first | omega | (simp only [go_sem]; omega)) only [go_sem, get_miss, seval, reduceCtorEq]))
          | (apply aL_guardN; (· simp (disch := first | omega | (simp only [go_sem]; omega)) only [go_sem, get_miss, seval, reduceCtorEq] <;> with_reducible rfl); all_goals (intro h; first | (exfalso; omega) | (simp only [h, decide_true, decide_false, not_true, not_false_iff])))
          | (apply aL_guardP; (· simp (disch := first | omega | (simp only [go_sem]; omega)) only [go_sem, get_miss, seval, reduceCtorEq] <;> with_reducible rfl); all_goals (intro h; first | (exfalso; omega) | (simp only [h, decide_true, decide_false, not_true, not_false_iff])))
          | (refine aC_condT ?_ ?_; (· simp (disch := first | omega | (simp only [go_sem]; omega)) only [go_sem, get_miss, seval, reduceCtorEq]))
          | (refine aC_condF ?_ ?_; (· simp (disch := first | omega | (simp only [go_sem]; omega)) only [go_sem, get_miss, seval, reduceCtorEq]))
          | (refine aC_condP (by simp (disch := first | omega | (simp only [go_sem]; omega)) only [go_sem, get_miss, seval, reduceCtorEq] <;> with_reducible rfl) ?_ ?_ <;> (intro h; first | (exfalso; omega) | skip))
          | fail)
        all_goals try (first | exact True.intro | omega)
        all_goals try (simp (disch := first | omega | (simp only [go_sem]; omega)) only [go_sem, get_miss, seval, reduceCtorEq] <;> first | exact True.intro | omega)
        all_goals try (simp (disch := first | omega | (simp only [go_sem]; omega)) only [go_sem, get_miss, seval, reduceCtorEq])
        all_goals try simp
      case hr =>
        intro e he
        obtain ⟨op, ho, rfl⟩ := forms_mem he
        by_cases hop : op = op0
        · subst hop
          have hxr := insK_range ((frm op).1 :: wr) (frm op).2
          have hcm := cpu_may op d a b i (frm op).1 (frm op).2 (by have := (hxr (frm op).2.length).2.2.2; rw [hq] at this; simp only at this; omega) (by have := (hxr (frm op).2.length).2.2.2; rw [hq] at this; simp only at this; omega)
          by_cases hM : MayF op d a b i (frm op).1 (frm op).2
          case' pos =>
            rw [decide_eq_true hM] at hcm
            have htx := cpu_text (may_range hM).1 (may_range hM).2.1 (may_range hM).2.2.1 (may_range hM).2.2.2.1 (may_range hM).2.2.2.2
            have hac2 : acc = decide (txt op d a b i = s) := by rw [hacc]; simp [hM]
          case' neg =>
            rw [decide_eq_false hM] at hcm
            have hac2 : acc = false := by rw [hacc]; simp [hM]
            have htx := hcm
          all_goals
          clear hM he hw hacc
          generalize txt op d a b i = X at *
          generalize (frm op).1 = w at *
          generalize (frm op).2 = p at *
          repeat' (first
            | refine aC_seq ?_
            | refine aC_reg rfl ?_
            | refine aC_block ?_
            | refine aC_skip ?_
            | refine aC_loop ?_
            | refine aC_scope ?_
            | refine scopeQ_normal ?_
            | refine scopeQ_exit ?_
            | refine scopeQ_ret ?_
            | refine aC_exit ?_
            | refine aC_ret ?_
            | refine thenQ_normal ?_
            | refine blockQ_normal ?_
            | refine thenQ_ret ?_
            | refine blockQ_ret ?_
            | refine thenQ_exit ?_
            | refine blockQ_hit ?_
            | refine blockQ_miss rfl ?_
            | refine aL_nil ?_
            | (apply aL_step; (· exact True.intro); (· simp (disch := first | omega | (simp only [go_sem]; omega)) only [go_sem, get_miss, seval, reduceCtorEq]); (· simp (disch := first | omega | (simp only [go_sem]; omega)) only [go_sem, get_miss, seval, reduceCtorEq] <;> with_reducible rfl); (· simp only [go_sem] <;> with_reducible rfl))
            | (refine aL_skip ?_ (by simp only [go_sem] <;> with_reducible rfl) ?_; (· simp (disch := first | omega | (simp only [go_sem]; omega)) only [go_sem, get_miss, seval, reduceCtorEq]))
            | (apply aL_guardN; (· simp (disch := first | omega | (simp only [go_sem]; omega)) only [go_sem, get_miss, seval, reduceCtorEq] <;> with_reducible rfl); all_goals (intro h; first | (exfalso; omega) | (simp only [h, decide_true, decide_false, not_true, not_false_iff])))
            | (apply aL_guardP; (· simp (disch := first | omega | (simp only [go_sem]; omega)) only [go_sem, get_miss, seval, reduceCtorEq] <;> with_reducible rfl); all_goals (intro h; first | (exfalso; omega) | (simp only [h, decide_true, decide_false, not_true, not_false_iff])))
            | (refine aC_condT ?_ ?_; (· simp (disch := first | omega | (simp only [go_sem]; omega)) only [go_sem, get_miss, seval, reduceCtorEq]))
            | (refine aC_condF ?_ ?_; (· simp (disch := first | omega | (simp only [go_sem]; omega)) only [go_sem, get_miss, seval, reduceCtorEq]))
            | (refine aC_condP (by simp (disch := first | omega | (simp only [go_sem]; omega)) only [go_sem, get_miss, seval, reduceCtorEq] <;> with_reducible rfl) ?_ ?_ <;> (intro h; first | (exfalso; omega) | skip))
            | fail)
          all_goals try trivial
          refine ⟨rfl, rfl, rfl, ?_⟩
          repeat' (first
            | refine aC_seq ?_
            | refine aC_reg rfl ?_
            | refine aC_block ?_
            | refine aC_skip ?_
            | refine aC_loop ?_
            | refine aC_scope ?_
            | refine scopeQ_normal ?_
            | refine scopeQ_exit ?_
            | refine scopeQ_ret ?_
            | refine aC_exit ?_
            | refine aC_ret ?_
            | refine thenQ_normal ?_
            | refine blockQ_normal ?_
            | refine thenQ_ret ?_
            | refine blockQ_ret ?_
            | refine thenQ_exit ?_
            | refine blockQ_hit ?_
            | refine blockQ_miss rfl ?_
            | refine aL_nil ?_
            | (apply aL_step; (· exact True.intro); (· simp (disch := first | omega | (simp only [go_sem]; omega)) only [go_sem, get_miss, seval, reduceCtorEq]); (· simp (disch := first | omega | (simp only [go_sem]; omega)) only [go_sem, get_miss, seval, reduceCtorEq] <;> with_reducible rfl); (· simp only [go_sem] <;> with_reducible rfl))
            | (refine aL_skip ?_ (by simp only [go_sem] <;> with_reducible rfl) ?_; (· simp (disch := first | omega | (simp only [go_sem]; omega)) only [go_sem, get_miss, seval, reduceCtorEq]))
            | (apply aL_guardN; (· simp (disch := first | omega | (simp only [go_sem]; omega)) only [go_sem, get_miss, seval, reduceCtorEq] <;> with_reducible rfl); all_goals (intro h; first | (exfalso; omega) | (simp only [h, decide_true, decide_false, not_true, not_false_iff])))
            | (apply aL_guardP; (· simp (disch := first | omega | (simp only [go_sem]; omega)) only [go_sem, get_miss, seval, reduceCtorEq] <;> with_reducible rfl); all_goals (intro h; first | (exfalso; omega) | (simp only [h, decide_true, decide_false, not_true, not_false_iff])))
            | (refine aC_condT ?_ ?_; (· simp (disch := first | omega | (simp only [go_sem]; omega)) only [go_sem, get_miss, seval, reduceCtorEq]))
            | (refine aC_condF ?_ ?_; (· simp (disch := first | omega | (simp only [go_sem]; omega)) only [go_sem, get_miss, seval, reduceCtorEq]))
            | (refine aC_condP (by simp (disch := first | omega | (simp only [go_sem]; omega)) only [go_sem, get_miss, seval, reduceCtorEq] <;> with_reducible rfl) ?_ ?_ <;> (intro h; first | (exfalso; omega) | skip))
            | fail)
          all_goals try trivial
          refine ⟨.ret, [(5, .bool acc), (4, .ptr 1 0)], [.frz (some FORMS), .cells [.int .i64 op, .int .i64 d, .int .i64 a, .int .i64 b, .int .i64 i] 26, .frz none, .cells [.str w, .str p] 85, .cells [.int .i64 op, .int .i64 d, .int .i64 a, .int .i64 b, .int .i64 i] 26, .siter p p.length], ?_, .inr ⟨by simp, (fun h => by cases h), (fun h => by cases h), rfl⟩⟩
          have hb : (w == w) = true := by simp
          repeat' (first
            | refine aC_seq ?_
            | refine aC_reg rfl ?_
            | refine aC_block ?_
            | refine aC_skip ?_
            | refine aC_loop ?_
            | refine aC_scope ?_
            | refine scopeQ_normal ?_
            | refine scopeQ_exit ?_
            | refine scopeQ_ret ?_
            | refine aC_exit ?_
            | refine aC_ret ?_
            | refine thenQ_normal ?_
            | refine blockQ_normal ?_
            | refine thenQ_ret ?_
            | refine blockQ_ret ?_
            | refine thenQ_exit ?_
            | refine blockQ_hit ?_
            | refine blockQ_miss rfl ?_
            | refine aL_nil ?_
            | (apply aL_step; (· exact True.intro); (· simp (disch := first | omega | (simp only [go_sem]; omega)) only [go_sem, get_miss, seval, reduceCtorEq, hb, aStep_rangeS, aRange]); (· simp (disch := first | omega | (simp only [go_sem]; omega)) only [go_sem, get_miss, seval, reduceCtorEq, hb, aStep_rangeS, aRange] <;> with_reducible rfl); (· simp only [go_sem] <;> with_reducible rfl))
            | (refine aL_skip ?_ (by simp only [go_sem] <;> with_reducible rfl) ?_; (· simp (disch := first | omega | (simp only [go_sem]; omega)) only [go_sem, get_miss, seval, reduceCtorEq, hb, aStep_rangeS, aRange]))
            | (apply aL_guardN; (· simp (disch := first | omega | (simp only [go_sem]; omega)) only [go_sem, get_miss, seval, reduceCtorEq, hb, aStep_rangeS, aRange] <;> with_reducible rfl); all_goals (intro h; first | (exfalso; omega) | (simp only [h, decide_true, decide_false, not_true, not_false_iff])))
            | (apply aL_guardP; (· simp (disch := first | omega | (simp only [go_sem]; omega)) only [go_sem, get_miss, seval, reduceCtorEq, hb, aStep_rangeS, aRange] <;> with_reducible rfl); all_goals (intro h; first | (exfalso; omega) | (simp only [h, decide_true, decide_false, not_true, not_false_iff])))
            | (refine aC_condT ?_ ?_; (· simp (disch := first | omega | (simp only [go_sem]; omega)) only [go_sem, get_miss, seval, reduceCtorEq, hb, aStep_rangeS, aRange]))
            | (refine aC_condF ?_ ?_; (· simp (disch := first | omega | (simp only [go_sem]; omega)) only [go_sem, get_miss, seval, reduceCtorEq, hb, aStep_rangeS, aRange]))
            | (refine aC_condP (by simp (disch := first | omega | (simp only [go_sem]; omega)) only [go_sem, get_miss, seval, reduceCtorEq, hb, aStep_rangeS, aRange] <;> with_reducible rfl) ?_ ?_ <;> (intro h; first | (exfalso; omega) | skip))
            | fail)
          all_goals try trivial
          · refine loop_rule (cxOk.wp _ _) (σ := Nat) (fun k => [(41, .ptr 5 0), (9, .ptr 4 0), (8, .ptr 3 0), (4, .ptr 1 0), (0, .str s), (6, .sl 1 false (.str w :: wr.map .str) .full)])
              (fun k => [.frz (some FORMS), .cells [.int .i64 0, .int .i64 0, .int .i64 0, .int .i64 0, .int .i64 0] 26, .frz none, .cells [.str w, .str p] 85, .cells [.int .i64 op, .int .i64 (insK (w :: wr) p k).1, .int .i64 (insK (w :: wr) p k).2.1, .int .i64 (insK (w :: wr) p k).2.2.1, .int .i64 (insK (w :: wr) p k).2.2.2] 26, .siter p k])
              (fun k => p.length - k) (fun k => k ≤ p.length) 0 (GStep.refl _ _) ⟨Nat.zero_le _, Sub.of_all (by simp [Fr.get]), rfl⟩ ?_
            intro k hk
            by_cases hlt : k < p.length
            · have e0 : p[k]? = some p[k] := List.getElem?_eq_getElem hlt
              have hc := hpc p[k] (List.getElem_mem hlt)
              have hlw : k < wr.length := by omega
              have hx := hwp wr[k] (List.getElem_mem hlw)
              have htr := a_trim wr[k] [114]
              have hle := Lib.trimPrefix_le wr[k] [114]
              have hnu := cpu_number (Lib.trimPrefix wr[k] [114]) (by omega)
              have ek : insK (w :: wr) p (k + 1) = stepI (insK (w :: wr) p k) p[k] (numP (Lib.trimPrefix wr[k] [114])) := by
                simp [insK, List.getD, hlt, hlw, Nat.add_comm 1 k]
              have eg : (AVal.str w :: wr.map AVal.str).getD (1 + (k : Int)).toNat .any = .str wr[k] := by
                rw [show (1 + (k : Int)).toNat = k + 1 by omega]
                simp [List.getD, hlw]
              have hlk : 1 + (k : Int) < 9223372036854775807 := by omega
              obtain ⟨q1, q2, q3, q4, hq'⟩ : ∃ q1 q2 q3 q4, insK (w :: wr) p k = (q1, q2, q3, q4) := ⟨_, _, _, _, rfl⟩
              rw [hq'] at ek
              simp only [hq']
              generalize numP (Lib.trimPrefix wr[k] [114]) = n at *
              generalize Lib.trimPrefix wr[k] [114] = y at *
              generalize p[k] = c at *
              clear hcm htx
              rcases hc with rfl | rfl | rfl | rfl
              all_goals
              repeat' (first
                | refine aC_seq ?_
                | refine aC_reg rfl ?_
                | refine aC_block ?_
                | refine aC_skip ?_
                | refine aC_loop ?_
                | refine aC_scope ?_
                | refine scopeQ_normal ?_
                | refine scopeQ_exit ?_
                | refine scopeQ_ret ?_
                | refine aC_exit ?_
                | refine aC_ret ?_
                | refine thenQ_normal ?_
                | refine blockQ_normal ?_
                | refine thenQ_ret ?_
                | refine blockQ_ret ?_
                | refine thenQ_exit ?_
                | refine blockQ_hit ?_
                | refine blockQ_miss rfl ?_
                | refine aL_nil ?_
                | (apply aL_step; (· exact True.intro); (· simp (disch := first | omega | (simp only [go_sem]; omega)) only [go_sem, get_miss, seval, reduceCtorEq, aStep_nextS, aNextS, e0, UInt8.reduceToNat, eg]); (· simp (disch := first | omega | (simp only [go_sem]; omega)) only [go_sem, get_miss, seval, reduceCtorEq, aStep_nextS, aNextS, e0, UInt8.reduceToNat, eg] <;> with_reducible rfl); (· simp only [go_sem] <;> with_reducible rfl))
                | (refine aL_skip ?_ (by simp only [go_sem] <;> with_reducible rfl) ?_; (· simp (disch := first | omega | (simp only [go_sem]; omega)) only [go_sem, get_miss, seval, reduceCtorEq, aStep_nextS, aNextS, e0, UInt8.reduceToNat, eg]))
                | (apply aL_guardN; (· simp (disch := first | omega | (simp only [go_sem]; omega)) only [go_sem, get_miss, seval, reduceCtorEq, aStep_nextS, aNextS, e0, UInt8.reduceToNat, eg] <;> with_reducible rfl); all_goals (intro h; first | (exfalso; omega) | (simp only [h, decide_true, decide_false, not_true, not_false_iff])))
                | (apply aL_guardP; (· simp (disch := first | omega | (simp only [go_sem]; omega)) only [go_sem, get_miss, seval, reduceCtorEq, aStep_nextS, aNextS, e0, UInt8.reduceToNat, eg] <;> with_reducible rfl); all_goals (intro h; first | (exfalso; omega) | (simp only [h, decide_true, decide_false, not_true, not_false_iff])))
                | (refine aC_condT ?_ ?_; (· simp (disch := first | omega | (simp only [go_sem]; omega)) only [go_sem, get_miss, seval, reduceCtorEq, aStep_nextS, aNextS, e0, UInt8.reduceToNat, eg]))
                | (refine aC_condF ?_ ?_; (· simp (disch := first | omega | (simp only [go_sem]; omega)) only [go_sem, get_miss, seval, reduceCtorEq, aStep_nextS, aNextS, e0, UInt8.reduceToNat, eg]))
                | (refine aC_condP (by simp (disch := first | omega | (simp only [go_sem]; omega)) only [go_sem, get_miss, seval, reduceCtorEq, aStep_nextS, aNextS, e0, UInt8.reduceToNat, eg] <;> with_reducible rfl) ?_ ?_ <;> (intro h; first | (exfalso; omega) | skip))
                | (apply aL_pure cxG (htr); (case hg => (simp (disch := first | omega | (simp only [go_sem]; omega)) only [go_sem, get_miss, seval, reduceCtorEq, aStep_nextS, aNextS, e0, UInt8.reduceToNat, eg])); (case hx => (simp (disch := first | omega | (simp only [go_sem]; omega)) only [go_sem, get_miss, seval, reduceCtorEq, aStep_nextS, aNextS, e0, UInt8.reduceToNat, eg] <;> with_reducible rfl)); (case ha => (simp (disch := first | omega | (simp only [go_sem]; omega)) only [go_sem, get_miss, seval, reduceCtorEq, aStep_nextS, aNextS, e0, UInt8.reduceToNat, eg] <;> with_reducible rfl)); (case he => (simp only [go_sem] <;> with_reducible rfl)); (case hcl => (simp)); (case hf => (simp only [go_sem] <;> with_reducible rfl)))
                | (apply aL_pure cxG (hnu); (case hg => (simp (disch := first | omega | (simp only [go_sem]; omega)) only [go_sem, get_miss, seval, reduceCtorEq, aStep_nextS, aNextS, e0, UInt8.reduceToNat, eg])); (case hx => (simp (disch := first | omega | (simp only [go_sem]; omega)) only [go_sem, get_miss, seval, reduceCtorEq, aStep_nextS, aNextS, e0, UInt8.reduceToNat, eg] <;> with_reducible rfl)); (case ha => (simp (disch := first | omega | (simp only [go_sem]; omega)) only [go_sem, get_miss, seval, reduceCtorEq, aStep_nextS, aNextS, e0, UInt8.reduceToNat, eg] <;> with_reducible rfl)); (case he => (simp only [go_sem] <;> with_reducible rfl)); (case hcl => (simp)); (case hf => (simp only [go_sem] <;> with_reducible rfl)))
                | fail)
              all_goals try (first | exact True.intro | omega)
              all_goals try (simp (disch := first | omega | (simp only [go_sem]; omega)) only [go_sem, get_miss, seval, reduceCtorEq] <;> first | exact True.intro | omega)
              all_goals first | exact not_false | (simp (disch := first | omega | (simp only [go_sem]; omega)) only [go_sem, get_miss, seval, reduceCtorEq, eg]; done) | exact ⟨k + 1, by omega, Sub.of_all (by simp [Fr.get]), by simp [ek, stepI], by omega⟩
            · have e0 : p[k]? = none := List.getElem?_eq_none (by omega)
              have hk2 : k = p.length := by omega
              subst hk2
              rw [hq]
              simp only
              repeat' (first
                | refine aC_seq ?_
                | refine aC_reg rfl ?_
                | refine aC_block ?_
                | refine aC_skip ?_
                | refine aC_loop ?_
                | refine aC_scope ?_
                | refine scopeQ_normal ?_
                | refine scopeQ_exit ?_
                | refine scopeQ_ret ?_
                | refine aC_exit ?_
                | refine aC_ret ?_
                | refine thenQ_normal ?_
                | refine blockQ_normal ?_
                | refine thenQ_ret ?_
                | refine blockQ_ret ?_
                | refine thenQ_exit ?_
                | refine blockQ_hit ?_
                | refine blockQ_miss rfl ?_
                | refine aL_nil ?_
                | (apply aL_step; (· exact True.intro); (· simp (disch := first | omega | (simp only [go_sem]; omega)) only [go_sem, get_miss, seval, reduceCtorEq, aStep_nextS, aNextS, e0]); (· simp (disch := first | omega | (simp only [go_sem]; omega)) only [go_sem, get_miss, seval, reduceCtorEq, aStep_nextS, aNextS, e0] <;> with_reducible rfl); (· simp only [go_sem] <;> with_reducible rfl))
                | (refine aL_skip ?_ (by simp only [go_sem] <;> with_reducible rfl) ?_; (· simp (disch := first | omega | (simp only [go_sem]; omega)) only [go_sem, get_miss, seval, reduceCtorEq, aStep_nextS, aNextS, e0]))
                | (apply aL_guardN; (· simp (disch := first | omega | (simp only [go_sem]; omega)) only [go_sem, get_miss, seval, reduceCtorEq, aStep_nextS, aNextS, e0] <;> with_reducible rfl); all_goals (intro h; first | (exfalso; omega) | (simp only [h, decide_true, decide_false, not_true, not_false_iff])))
                | (apply aL_guardP; (· simp (disch := first | omega | (simp only [go_sem]; omega)) only [go_sem, get_miss, seval, reduceCtorEq, aStep_nextS, aNextS, e0] <;> with_reducible rfl); all_goals (intro h; first | (exfalso; omega) | (simp only [h, decide_true, decide_false, not_true, not_false_iff])))
                | (refine aC_condT ?_ ?_; (· simp (disch := first | omega | (simp only [go_sem]; omega)) only [go_sem, get_miss, seval, reduceCtorEq, aStep_nextS, aNextS, e0]))
                | (refine aC_condF ?_ ?_; (· simp (disch := first | omega | (simp only [go_sem]; omega)) only [go_sem, get_miss, seval, reduceCtorEq, aStep_nextS, aNextS, e0]))
                | (refine aC_condP (by simp (disch := first | omega | (simp only [go_sem]; omega)) only [go_sem, get_miss, seval, reduceCtorEq, aStep_nextS, aNextS, e0] <;> with_reducible rfl) ?_ ?_ <;> (intro h; first | (exfalso; omega) | skip))
                | fail)
              all_goals try trivial
              refine aC_regB (U := [(some 68, some 71), (some 68, some 75)]) rfl [(some 68, 4), (some 69, 4), (some 70, 3), (some 73, 4), (some 74, 3)] ?_
              repeat' (first
                | refine aLB_nil ?_
                | (apply aLB_step; (· exact True.intro); (· exact (by intro h; cases h)); (· rfl); (· simp (disch := first | omega | (simp only [go_sem]; omega)) only [go_sem, get_miss, seval, reduceCtorEq]); (· simp (disch := first | omega | (simp only [go_sem]; omega)) only [go_sem, get_miss, seval, reduceCtorEq] <;> with_reducible rfl); (· simp only [go_sem] <;> with_reducible rfl); (· (intro b hb; first | (cases hb; done) | (simp (disch := first | omega | (simp only [go_sem]; omega)) only [loadBox, go_sem, get_miss, seval, reduceCtorEq] at hb; (try injection hb with hb); subst hb; simp))))
                | (apply aLB_write; (· exact True.intro); (· rfl); (· rfl); (· simp (disch := first | omega | (simp only [go_sem]; omega)) only [go_sem, get_miss, seval, reduceCtorEq]); (· simp (disch := first | omega | (simp only [go_sem]; omega)) only [go_sem, get_miss, seval, reduceCtorEq] <;> with_reducible rfl); (· simp only [go_sem] <;> with_reducible rfl); (· simp))
                | (refine aLB_skip ?_ (by simp only [go_sem] <;> with_reducible rfl) ?_; (· simp (disch := first | omega | (simp only [go_sem]; omega)) only [go_sem, get_miss, seval, reduceCtorEq]))
                | (apply aLB_pure cxG (hcm); (case hg => (simp (disch := first | omega | (simp only [go_sem]; omega)) only [go_sem, get_miss, seval, reduceCtorEq])); (case hx => (simp (disch := first | omega | (simp only [go_sem]; omega)) only [go_sem, get_miss, seval, reduceCtorEq] <;> with_reducible rfl)); (case ha => (simp (disch := first | omega | (simp only [go_sem]; omega)) only [go_sem, get_miss, seval, reduceCtorEq] <;> with_reducible rfl)); (case he => (simp only [go_sem] <;> with_reducible rfl)); (case hcl => (simp)); (case hf => (simp only [go_sem] <;> with_reducible rfl)))
                | (apply aLB_pure cxG (htx); (case hg => (simp (disch := first | omega | (simp only [go_sem]; omega)) only [go_sem, get_miss, seval, reduceCtorEq])); (case hx => (simp (disch := first | omega | (simp only [go_sem]; omega)) only [go_sem, get_miss, seval, reduceCtorEq] <;> with_reducible rfl)); (case ha => (simp (disch := first | omega | (simp only [go_sem]; omega)) only [go_sem, get_miss, seval, reduceCtorEq] <;> with_reducible rfl)); (case he => (simp only [go_sem] <;> with_reducible rfl)); (case hcl => (simp)); (case hf => (simp only [go_sem] <;> with_reducible rfl)))
                | fail)
              repeat' (first
                | refine aC_seq ?_
                | refine aC_reg rfl ?_
                | refine aC_block ?_
                | refine aC_skip ?_
                | refine aC_loop ?_
                | refine aC_scope ?_
                | refine scopeQ_normal ?_
                | refine scopeQ_exit ?_
                | refine scopeQ_ret ?_
                | refine aC_exit ?_
                | refine aC_ret ?_
                | refine thenQ_normal ?_
                | refine blockQ_normal ?_
                | refine thenQ_ret ?_
                | refine blockQ_ret ?_
                | refine thenQ_exit ?_
                | refine blockQ_hit ?_
                | refine blockQ_miss rfl ?_
                | refine aL_nil ?_
                | (apply aL_step; (· exact True.intro); (· simp (disch := first | omega | (simp only [go_sem]; omega)) only [go_sem, get_miss, seval, reduceCtorEq]); (· simp (disch := first | omega | (simp only [go_sem]; omega)) only [go_sem, get_miss, seval, reduceCtorEq] <;> with_reducible rfl); (· simp only [go_sem] <;> with_reducible rfl))
                | (refine aL_skip ?_ (by simp only [go_sem] <;> with_reducible rfl) ?_; (· simp (disch := first | omega | (simp only [go_sem]; omega)) only [go_sem, get_miss, seval, reduceCtorEq]))
                | (apply aL_guardN; (· simp (disch := first | omega | (simp only [go_sem]; omega)) only [go_sem, get_miss, seval, reduceCtorEq] <;> with_reducible rfl); all_goals (intro h; first | (exfalso; omega) | (simp only [h, decide_true, decide_false, not_true, not_false_iff])))
                | (apply aL_guardP; (· simp (disch := first | omega | (simp only [go_sem]; omega)) only [go_sem, get_miss, seval, reduceCtorEq] <;> with_reducible rfl); all_goals (intro h; first | (exfalso; omega) | (simp only [h, decide_true, decide_false, not_true, not_false_iff])))
                | (refine aC_condT ?_ ?_; (· simp (disch := first | omega | (simp only [go_sem]; omega)) only [go_sem, get_miss, seval, reduceCtorEq]))
                | (refine aC_condF ?_ ?_; (· simp (disch := first | omega | (simp only [go_sem]; omega)) only [go_sem, get_miss, seval, reduceCtorEq]))
                | (refine aC_condP (by simp (disch := first | omega | (simp only [go_sem]; omega)) only [go_sem, get_miss, seval, reduceCtorEq] <;> with_reducible rfl) ?_ ?_ <;> (intro h; first | (exfalso; omega) | skip))
                | fail)
              all_goals try (first | exact True.intro | omega)
              all_goals try (simp (disch := first | omega | (simp only [go_sem]; omega)) only [go_sem, get_miss, seval, reduceCtorEq] <;> first | exact True.intro | omega)
              all_goals first | exact not_false | exact ⟨rfl, Sub.of_all (by simp [Fr.get, hac2]), rfl⟩ | simp
          all_goals first | exact not_false | omega | simp
        · have hne : (frm op).1 ≠ (frm op0).1 := fun h => hop (frm_inj ho ho0 h)
          have hb : ((frm op).1 == (frm op0).1) = false := by simp [hne]
          repeat' (first
            | refine aC_seq ?_
            | refine aC_reg rfl ?_
            | refine aC_block ?_
            | refine aC_skip ?_
            | refine aC_loop ?_
            | refine aC_scope ?_
            | refine scopeQ_normal ?_
            | refine scopeQ_exit ?_
            | refine scopeQ_ret ?_
            | refine aC_exit ?_
            | refine aC_ret ?_
            | refine thenQ_normal ?_
            | refine blockQ_normal ?_
            | refine thenQ_ret ?_
            | refine blockQ_ret ?_
            | refine thenQ_exit ?_
            | refine blockQ_hit ?_
            | refine blockQ_miss rfl ?_
            | refine aL_nil ?_
            | (apply aL_step; (· exact True.intro); (· simp (disch := first | omega | (simp only [go_sem]; omega)) only [go_sem, get_miss, seval, reduceCtorEq]); (· simp (disch := first | omega | (simp only [go_sem]; omega)) only [go_sem, get_miss, seval, reduceCtorEq] <;> with_reducible rfl); (· simp only [go_sem] <;> with_reducible rfl))
            | (refine aL_skip ?_ (by simp only [go_sem] <;> with_reducible rfl) ?_; (· simp (disch := first | omega | (simp only [go_sem]; omega)) only [go_sem, get_miss, seval, reduceCtorEq]))
            | (apply aL_guardN; (· simp (disch := first | omega | (simp only [go_sem]; omega)) only [go_sem, get_miss, seval, reduceCtorEq] <;> with_reducible rfl); all_goals (intro h; first | (exfalso; omega) | (simp only [h, decide_true, decide_false, not_true, not_false_iff])))
            | (apply aL_guardP; (· simp (disch := first | omega | (simp only [go_sem]; omega)) only [go_sem, get_miss, seval, reduceCtorEq] <;> with_reducible rfl); all_goals (intro h; first | (exfalso; omega) | (simp only [h, decide_true, decide_false, not_true, not_false_iff])))
            | (refine aC_condT ?_ ?_; (· simp (disch := first | omega | (simp only [go_sem]; omega)) only [go_sem, get_miss, seval, reduceCtorEq]))
            | (refine aC_condF ?_ ?_; (· simp (disch := first | omega | (simp only [go_sem]; omega)) only [go_sem, get_miss, seval, reduceCtorEq]))
            | (refine aC_condP (by simp (disch := first | omega | (simp only [go_sem]; omega)) only [go_sem, get_miss, seval, reduceCtorEq] <;> with_reducible rfl) ?_ ?_ <;> (intro h; first | (exfalso; omega) | skip))
            | fail)
          all_goals try trivial
          refine ⟨rfl, rfl, rfl, ?_⟩
          repeat' (first
            | refine aC_seq ?_
            | refine aC_reg rfl ?_
            | refine aC_block ?_
            | refine aC_skip ?_
            | refine aC_loop ?_
            | refine aC_scope ?_
            | refine scopeQ_normal ?_
            | refine scopeQ_exit ?_
            | refine scopeQ_ret ?_
            | refine aC_exit ?_
            | refine aC_ret ?_
            | refine thenQ_normal ?_
            | refine blockQ_normal ?_
            | refine thenQ_ret ?_
            | refine blockQ_ret ?_
            | refine thenQ_exit ?_
            | refine blockQ_hit ?_
            | refine blockQ_miss rfl ?_
            | refine aL_nil ?_
            | (apply aL_step; (· exact True.intro); (· simp (disch := first | omega | (simp only [go_sem]; omega)) only [go_sem, get_miss, seval, reduceCtorEq]); (· simp (disch := first | omega | (simp only [go_sem]; omega)) only [go_sem, get_miss, seval, reduceCtorEq] <;> with_reducible rfl); (· simp only [go_sem] <;> with_reducible rfl))
            | (refine aL_skip ?_ (by simp only [go_sem] <;> with_reducible rfl) ?_; (· simp (disch := first | omega | (simp only [go_sem]; omega)) only [go_sem, get_miss, seval, reduceCtorEq]))
            | (apply aL_guardN; (· simp (disch := first | omega | (simp only [go_sem]; omega)) only [go_sem, get_miss, seval, reduceCtorEq] <;> with_reducible rfl); all_goals (intro h; first | (exfalso; omega) | (simp only [h, decide_true, decide_false, not_true, not_false_iff])))
            | (apply aL_guardP; (· simp (disch := first | omega | (simp only [go_sem]; omega)) only [go_sem, get_miss, seval, reduceCtorEq] <;> with_reducible rfl); all_goals (intro h; first | (exfalso; omega) | (simp only [h, decide_true, decide_false, not_true, not_false_iff])))
            | (refine aC_condT ?_ ?_; (· simp (disch := first | omega | (simp only [go_sem]; omega)) only [go_sem, get_miss, seval, reduceCtorEq]))
            | (refine aC_condF ?_ ?_; (· simp (disch := first | omega | (simp only [go_sem]; omega)) only [go_sem, get_miss, seval, reduceCtorEq]))
            | (refine aC_condP (by simp (disch := first | omega | (simp only [go_sem]; omega)) only [go_sem, get_miss, seval, reduceCtorEq] <;> with_reducible rfl) ?_ ?_ <;> (intro h; first | (exfalso; omega) | skip))
            | fail)
          all_goals try trivial
          refine ⟨.ext 1, [(6, .sl 1 false (.str (frm op0).1 :: wr.map .str) .full), (16, .ptr 2 0), (4, .ptr 1 0), (0, .str s)], [.frz (some FORMS), .cells [.int .i64 0, .int .i64 0, .int .i64 0, .int .i64 0, .int .i64 0] 26, .frz none, .cells [.str (frm op).1, .str (frm op).2] 85], ?_, .inl ⟨by simp [hop], .inr rfl, rfl, fun _ => .inr rfl⟩⟩
          repeat' (first
            | refine aC_seq ?_
            | refine aC_reg rfl ?_
            | refine aC_block ?_
            | refine aC_skip ?_
            | refine aC_loop ?_
            | refine aC_scope ?_
            | refine scopeQ_normal ?_
            | refine scopeQ_exit ?_
            | refine scopeQ_ret ?_
            | refine aC_exit ?_
            | refine aC_ret ?_
            | refine thenQ_normal ?_
            | refine blockQ_normal ?_
            | refine thenQ_ret ?_
            | refine blockQ_ret ?_
            | refine thenQ_exit ?_
            | refine blockQ_hit ?_
            | refine blockQ_miss rfl ?_
            | refine aL_nil ?_
            | (apply aL_step; (· exact True.intro); (· simp (disch := first | omega | (simp only [go_sem]; omega)) only [go_sem, get_miss, seval, reduceCtorEq, hb]); (· simp (disch := first | omega | (simp only [go_sem]; omega)) only [go_sem, get_miss, seval, reduceCtorEq, hb] <;> with_reducible rfl); (· simp only [go_sem] <;> with_reducible rfl))
            | (refine aL_skip ?_ (by simp only [go_sem] <;> with_reducible rfl) ?_; (· simp (disch := first | omega | (simp only [go_sem]; omega)) only [go_sem, get_miss, seval, reduceCtorEq, hb]))
            | (apply aL_guardN; (· simp (disch := first | omega | (simp only [go_sem]; omega)) only [go_sem, get_miss, seval, reduceCtorEq, hb] <;> with_reducible rfl); all_goals (intro h; first | (exfalso; omega) | (simp only [h, decide_true, decide_false, not_true, not_false_iff])))
            | (apply aL_guardP; (· simp (disch := first | omega | (simp only [go_sem]; omega)) only [go_sem, get_miss, seval, reduceCtorEq, hb] <;> with_reducible rfl); all_goals (intro h; first | (exfalso; omega) | (simp only [h, decide_true, decide_false, not_true, not_false_iff])))
            | (refine aC_condT ?_ ?_; (· simp (disch := first | omega | (simp only [go_sem]; omega)) only [go_sem, get_miss, seval, reduceCtorEq, hb]))
            | (refine aC_condF ?_ ?_; (· simp (disch := first | omega | (simp only [go_sem]; omega)) only [go_sem, get_miss, seval, reduceCtorEq, hb]))
            | (refine aC_condP (by simp (disch := first | omega | (simp only [go_sem]; omega)) only [go_sem, get_miss, seval, reduceCtorEq, hb] <;> with_reducible rfl) ?_ ?_ <;> (intro h; first | (exfalso; omega) | skip))
            | fail)
          all_goals try (first | exact True.intro | omega)
          all_goals try (simp (disch := first | omega | (simp only [go_sem]; omega)) only [go_sem, get_miss, seval, reduceCtorEq] <;> first | exact True.intro | omega)
          all_goals first | exact not_false | exact ⟨rfl, Sub.of_all (by simp [Fr.get]), rfl⟩
    all_goals try (first | exact True.intro | omega)
    all_goals try (simp (disch := first | omega | (simp only [go_sem]; omega)) only [go_sem, get_miss, seval, reduceCtorEq] <;> first | exact True.intro | omega)
  exact ACall.drop cxG key (n := 1) (by simp) rfl (by kernel_rfl)
end Go.Am
