/- Texts of instructions: numerals (the shelf's), cpu.text, cpu.Text, the document's Text. -/
import Derived.Test.YtbkfnbnechpolaaDoorC04
import Derived.Test.YtbkfnbnechpolaaDoorTrydSh
import Derived.Test.YtbkfnbnechpolaaDoorAmShelf
import Derived.Test.YtbkfnbnechpolaaDoorAmWalkC
set_option linter.unusedVariables false
set_option linter.unusedSimpArgs false
namespace Go.Am
open Go Go.Proofs
set_option linter.unusedSimpArgs false
set_option linter.unusedVariables false
set_option maxHeartbeats 40000000
set_option maxRecDepth 100000
attribute [local irreducible] aC aL thenQ blockQ scopeQ ALoop AWp

theorem nDigits_le : ∀ (k u : Nat), u < 10 ^ (k + 1) → Lib.nDigits u ≤ k + 1
  | 0, u, h => by rw [Lib.nDigits_small (by simpa using h)]; exact Nat.le_refl _
  | k + 1, u, h => by
    by_cases h1 : u < 10
    · rw [Lib.nDigits_small h1]; omega
    · rw [Lib.nDigits_big h1]
      have := nDigits_le k (u / 10) (by rw [Nat.pow_succ] at h; omega)
      omega

theorem itoa_len (n : Int) (h0 : -9223372036854775808 ≤ n) (h1 : n ≤ 9223372036854775807) : (Lib.itoa n).length ≤ 20 := by
  unfold Lib.itoa
  split
  · rw [List.length_cons, Lib.decDigits_length]
    have := nDigits_le 18 n.natAbs (by show n.natAbs < 10000000000000000000; omega)
    omega
  · rw [Lib.decDigits_length]
    have := nDigits_le 18 n.toNat (by show n.toNat < 10000000000000000000; omega)
    omega

theorem a_itoa (n : Int) (h0 : -9223372036854775808 ≤ n) (h1 : n ≤ 9223372036854775807) : APure cx 40 [.int .i64 n] (.str (Lib.itoa n)) :=
  apure_shelf (vs := [.int .i64 n]) (callable_of Tryd.func40 (by kernel_rfl) (by kernel_rfl)) rfl fun w im0 hG => by
    have ht : Lib.TabIs Tryd.prog w "internal/strconv.uint64pow10" .u64 Lib.pow10Tab := GL.tab (E := env0 w im0) (by kernel_rfl) (hG 0 _ rfl)
    refine (Tryd.strconv_Itoa n h0 h1 w ht).mono fun e w' h => ?_
    obtain ⟨rfl, k, os, rfl⟩ := h
    exact ⟨_, rfl, grown_grow w k os, .str _ _ rfl⟩

theorem a_format (n : Int) (h0 : -9223372036854775808 ≤ n) (h1 : n ≤ 9223372036854775807) : APure cx 41 [.int .i64 n, .int .i64 10] (.str (Lib.itoa n)) :=
  apure_shelf (vs := [.int .i64 n, .int .i64 10]) (callable_of Tryd.func41 (by kernel_rfl) (by kernel_rfl)) rfl fun w im0 hG => by
    have ht : Lib.TabIs Tryd.prog w "internal/strconv.uint64pow10" .u64 Lib.pow10Tab := GL.tab (E := env0 w im0) (by kernel_rfl) (hG 0 _ rfl)
    refine (Tryd.strconv_FormatInt_10 n h0 h1 w ht).mono fun e w' h => ?_
    obtain ⟨rfl, k, os, rfl⟩ := h
    exact ⟨_, rfl, grown_grow w k os, .str _ _ rfl⟩

theorem aStep_rangeS (C : Cx) (g : Nat → AVal) (S : St) {t : TypeId} {x : Operand} : aStep C (.range t x) g S = aRange C S t (aEval C g x) := rfl
theorem aStep_nextS (C : Cx) (g : Nat → AVal) (S : St) {it : Operand} : aStep C (.next it true) g S = aNextS S (aEval C g it) := rfl

/-- The texts of an instruction's parts. -/
def txL (D A B I : List UInt8) : List UInt8 → List UInt8
  | [] => []
  | c :: p => (if c = 100 then [32, 114] ++ D else if c = 97 then [32, 114] ++ A else if c = 98 then [32, 114] ++ B else [32] ++ I) ++ txL D A B I p
def txt (op d a b imm : Int) : List UInt8 := (frm op).1 ++ txL (Lib.itoa d) (Lib.itoa a) (Lib.itoa b) (Lib.itoa imm) (frm op).2

theorem txL_append (D A B I : List UInt8) : ∀ p q : List UInt8, txL D A B I (p ++ q) = txL D A B I p ++ txL D A B I q
  | [], q => rfl
  | c :: p, q => by
    simp only [List.cons_append, txL, txL_append D A B I p q, List.append_assoc]
theorem txL_len {D A B I : List UInt8} (hD : D.length ≤ 20) (hA : A.length ≤ 20) (hB : B.length ≤ 20) (hI : I.length ≤ 20) : ∀ p : List UInt8, (txL D A B I p).length ≤ 22 * p.length
  | [] => Nat.le_refl _
  | c :: p => by
    have := txL_len hD hA hB hI p
    simp only [txL]
    repeat' split
    all_goals (simp only [List.length_append, List.length_cons, List.length_nil]; omega)
theorem txL_take (D A B I p : List UInt8) (k : Nat) (h : k < p.length) : txL D A B I (p.take (k + 1)) = txL D A B I (p.take k) ++ (if p[k] = 100 then [32, 114] ++ D else if p[k] = 97 then [32, 114] ++ A else if p[k] = 98 then [32, 114] ++ B else [32] ++ I) := by
  rw [List.take_succ_eq_append_getElem h, txL_append]
  simp [txL]

theorem cpu_text_walk (w p D A B I : List UInt8) (op d a b imm : Int) (hw : w.length ≤ 10) (hpl : p.length ≤ 3) (hp : ∀ c ∈ p, c = 100 ∨ c = 97 ∨ c = 98 ∨ c = 105) (hD : D.length ≤ 20) (hA : A.length ≤ 20) (hB : B.length ≤ 20) (hI : I.length ≤ 20)
    (cd : APure cx 40 [.int .i64 d] (.str D)) (ca : APure cx 40 [.int .i64 a] (.str A)) (cb : APure cx 40 [.int .i64 b] (.str B)) (ci : APure cx 41 [.int .i64 imm, .int .i64 10] (.str I)) :
    APure cx 38 [.agg [.int .i64 op, .int .i64 d, .int .i64 a, .int .i64 b, .int .i64 imm], .agg [.str w, .str p]] (.str (w ++ txL D A B I p)) := by
  have hml : maxLen = 9223372036854775807 := rfl
  refine pure_fn cxOk Tryd.func38 (by kernel_rfl) (fun _ => false) (fun _ => none) (by kernel_rfl) (Nat.le_of_ble_eq_true (by kernel_rfl)) ?_
  dsimp only [LB, Tryd.f38, lite, nextOf, Option.isNone, Bool.not_true, Bool.not_false, Bool.and_true, Bool.true_and, Bool.false_and, Bool.and_self, Bool.false_eq_true, if_false, if_true, ↓reduceIte, liteO, List.map, Option.map, frame0, List.zipIdx, Nat.reduceAdd]
  try simp only [List.getElem?_toArray, List.getElem?_cons_succ, List.getElem?_cons_zero, Option.bind_some]
  repeat' (first
    | refine aC_seq ?_
    | refine aC_reg rfl ?_
    | refine aC_block ?_
    | refine aC_skip ?_
    | refine aC_loop ?_
    | refine aC_scope ?_
    | refine scopeQ_normal ?_
    | refine scopeQ_exit ?_
    | refine scopeQ_ret ?_
    | refine aC_exit ?_
    | refine aC_ret ?_
    | refine thenQ_normal ?_
    | refine blockQ_normal ?_
    | refine thenQ_ret ?_
    | refine blockQ_ret ?_
    | refine thenQ_exit ?_
    | refine blockQ_hit ?_
    | refine blockQ_miss rfl ?_
    | refine aL_nil ?_
    | (apply aL_step; (· exact True.intro); (· simp (disch := first | omega | (simp only [go_sem]; omega)) only [go_sem, get_miss, seval, reduceCtorEq, aStep_rangeS, aRange]); (· simp (disch := first | omega | (simp only [go_sem]; omega)) only [go_sem, get_miss, seval, reduceCtorEq, aStep_rangeS, aRange] <;> with_reducible rfl); (· simp only [go_sem] <;> with_reducible rfl))
    | (refine aL_skip ?_ (by simp only [go_sem] <;> with_reducible rfl) ?_; (· simp (disch := first | omega | (simp only [go_sem]; omega)) only [go_sem, get_miss, seval, reduceCtorEq, aStep_rangeS, aRange]))
    | (apply aL_guardN; (· simp (disch := first | omega | (simp only [go_sem]; omega)) only [go_sem, get_miss, seval, reduceCtorEq, aStep_rangeS, aRange] <;> with_reducible rfl); all_goals (intro h; first | (exfalso; omega) | (simp only [h, decide_true, decide_false, not_true, not_false_iff])))
    | (apply aL_guardP; (· simp (disch := first | omega | (simp only [go_sem]; omega)) only [go_sem, get_miss, seval, reduceCtorEq, aStep_rangeS, aRange] <;> with_reducible rfl); all_goals (intro h; first | (exfalso; omega) | (simp only [h, decide_true, decide_false, not_true, not_false_iff])))
    | (refine aC_condT ?_ ?_; (· simp (disch := first | omega | (simp only [go_sem]; omega)) only [go_sem, get_miss, seval, reduceCtorEq, aStep_rangeS, aRange]))
    | (refine aC_condF ?_ ?_; (· simp (disch := first | omega | (simp only [go_sem]; omega)) only [go_sem, get_miss, seval, reduceCtorEq, aStep_rangeS, aRange]))
    | (refine aC_condP (by simp (disch := first | omega | (simp only [go_sem]; omega)) only [go_sem, get_miss, seval, reduceCtorEq, aStep_rangeS, aRange] <;> with_reducible rfl) ?_ ?_ <;> (intro h; first | (exfalso; omega) | skip))
    | fail)
  · refine loop_rule (cxOk.wp _ _) (σ := Nat) (fun k => [(5, .str (w ++ txL D A B I (p.take k))), (12, .ptr 2 0), (2, .ptr 0 0)])
      (fun k => [.cells [.int .i64 op, .int .i64 d, .int .i64 a, .int .i64 b, .int .i64 imm] 26, .cells [.str w, .str p] 85, .siter p k]) (fun k => p.length - k) (fun k => k ≤ p.length) 0 (GStep.refl _ _) ⟨Nat.zero_le _, Sub.of_all (by simp [Fr.get, txL]), rfl⟩ ?_
    intro k hk
    have hl : (w ++ txL D A B I (p.take k)).length ≤ 100 := by
      have := txL_len hD hA hB hI (p.take k)
      rw [List.length_take] at this
      simp only [List.length_append]
      omega
    by_cases hlt : k < p.length
    · have e0 : p[k]? = some p[k] := List.getElem?_eq_getElem hlt
      have e1 := txL_take D A B I p k hlt
      have hc := hp p[k] (List.getElem_mem hlt)
      have en : ∀ X, X = w ++ txL D A B I (p.take k) → w ++ txL D A B I (p.take (k + 1)) = X ++ (if p[k] = 100 then [32, 114] ++ D else if p[k] = 97 then [32, 114] ++ A else if p[k] = 98 then [32, 114] ++ B else [32] ++ I) := by
        intro X hX
        rw [hX, e1, List.append_assoc]
      generalize hX : w ++ txL D A B I (p.take k) = X at hl en ⊢
      have en := en X rfl
      generalize p[k] = c at e0 hc en
      rcases hc with rfl | rfl | rfl | rfl
      all_goals
      repeat' (first
        | refine aC_seq ?_
        | refine aC_reg rfl ?_
        | refine aC_block ?_
        | refine aC_skip ?_
        | refine aC_loop ?_
        | refine aC_scope ?_
        | refine scopeQ_normal ?_
        | refine scopeQ_exit ?_
        | refine scopeQ_ret ?_
        | refine aC_exit ?_
        | refine aC_ret ?_
        | refine thenQ_normal ?_
        | refine blockQ_normal ?_
        | refine thenQ_ret ?_
        | refine blockQ_ret ?_
        | refine thenQ_exit ?_
        | refine blockQ_hit ?_
        | refine blockQ_miss rfl ?_
        | refine aL_nil ?_
        | (apply aL_step; (· exact True.intro); (· simp (disch := first | omega | (simp only [go_sem]; omega)) only [go_sem, get_miss, seval, reduceCtorEq, aStep_nextS, aNextS, e0, UInt8.reduceToNat]); (· simp (disch := first | omega | (simp only [go_sem]; omega)) only [go_sem, get_miss, seval, reduceCtorEq, aStep_nextS, aNextS, e0, UInt8.reduceToNat] <;> with_reducible rfl); (· simp only [go_sem] <;> with_reducible rfl))
        | (refine aL_skip ?_ (by simp only [go_sem] <;> with_reducible rfl) ?_; (· simp (disch := first | omega | (simp only [go_sem]; omega)) only [go_sem, get_miss, seval, reduceCtorEq, aStep_nextS, aNextS, e0, UInt8.reduceToNat]))
        | (apply aL_guardN; (· simp (disch := first | omega | (simp only [go_sem]; omega)) only [go_sem, get_miss, seval, reduceCtorEq, aStep_nextS, aNextS, e0, UInt8.reduceToNat] <;> with_reducible rfl); all_goals (intro h; first | (exfalso; omega) | (simp only [h, decide_true, decide_false, not_true, not_false_iff])))
        | (apply aL_guardP; (· simp (disch := first | omega | (simp only [go_sem]; omega)) only [go_sem, get_miss, seval, reduceCtorEq, aStep_nextS, aNextS, e0, UInt8.reduceToNat] <;> with_reducible rfl); all_goals (intro h; first | (exfalso; omega) | (simp only [h, decide_true, decide_false, not_true, not_false_iff])))
        | (refine aC_condT ?_ ?_; (· simp (disch := first | omega | (simp only [go_sem]; omega)) only [go_sem, get_miss, seval, reduceCtorEq, aStep_nextS, aNextS, e0, UInt8.reduceToNat]))
        | (refine aC_condF ?_ ?_; (· simp (disch := first | omega | (simp only [go_sem]; omega)) only [go_sem, get_miss, seval, reduceCtorEq, aStep_nextS, aNextS, e0, UInt8.reduceToNat]))
        | (refine aC_condP (by simp (disch := first | omega | (simp only [go_sem]; omega)) only [go_sem, get_miss, seval, reduceCtorEq, aStep_nextS, aNextS, e0, UInt8.reduceToNat] <;> with_reducible rfl) ?_ ?_ <;> (intro h; first | (exfalso; omega) | skip))
        | (apply aL_pure cxG (cd); (case hg => (simp (disch := first | omega | (simp only [go_sem]; omega)) only [go_sem, get_miss, seval, reduceCtorEq, aStep_nextS, aNextS, e0, UInt8.reduceToNat])); (case hx => (simp (disch := first | omega | (simp only [go_sem]; omega)) only [go_sem, get_miss, seval, reduceCtorEq, aStep_nextS, aNextS, e0, UInt8.reduceToNat] <;> with_reducible rfl)); (case ha => (simp (disch := first | omega | (simp only [go_sem]; omega)) only [go_sem, get_miss, seval, reduceCtorEq, aStep_nextS, aNextS, e0, UInt8.reduceToNat] <;> with_reducible rfl)); (case he => (simp only [go_sem] <;> with_reducible rfl)); (case hcl => (simp)); (case hf => (simp only [go_sem] <;> with_reducible rfl)))
        | (apply aL_pure cxG (ca); (case hg => (simp (disch := first | omega | (simp only [go_sem]; omega)) only [go_sem, get_miss, seval, reduceCtorEq, aStep_nextS, aNextS, e0, UInt8.reduceToNat])); (case hx => (simp (disch := first | omega | (simp only [go_sem]; omega)) only [go_sem, get_miss, seval, reduceCtorEq, aStep_nextS, aNextS, e0, UInt8.reduceToNat] <;> with_reducible rfl)); (case ha => (simp (disch := first | omega | (simp only [go_sem]; omega)) only [go_sem, get_miss, seval, reduceCtorEq, aStep_nextS, aNextS, e0, UInt8.reduceToNat] <;> with_reducible rfl)); (case he => (simp only [go_sem] <;> with_reducible rfl)); (case hcl => (simp)); (case hf => (simp only [go_sem] <;> with_reducible rfl)))
        | (apply aL_pure cxG (cb); (case hg => (simp (disch := first | omega | (simp only [go_sem]; omega)) only [go_sem, get_miss, seval, reduceCtorEq, aStep_nextS, aNextS, e0, UInt8.reduceToNat])); (case hx => (simp (disch := first | omega | (simp only [go_sem]; omega)) only [go_sem, get_miss, seval, reduceCtorEq, aStep_nextS, aNextS, e0, UInt8.reduceToNat] <;> with_reducible rfl)); (case ha => (simp (disch := first | omega | (simp only [go_sem]; omega)) only [go_sem, get_miss, seval, reduceCtorEq, aStep_nextS, aNextS, e0, UInt8.reduceToNat] <;> with_reducible rfl)); (case he => (simp only [go_sem] <;> with_reducible rfl)); (case hcl => (simp)); (case hf => (simp only [go_sem] <;> with_reducible rfl)))
        | (apply aL_pure cxG (ci); (case hg => (simp (disch := first | omega | (simp only [go_sem]; omega)) only [go_sem, get_miss, seval, reduceCtorEq, aStep_nextS, aNextS, e0, UInt8.reduceToNat])); (case hx => (simp (disch := first | omega | (simp only [go_sem]; omega)) only [go_sem, get_miss, seval, reduceCtorEq, aStep_nextS, aNextS, e0, UInt8.reduceToNat] <;> with_reducible rfl)); (case ha => (simp (disch := first | omega | (simp only [go_sem]; omega)) only [go_sem, get_miss, seval, reduceCtorEq, aStep_nextS, aNextS, e0, UInt8.reduceToNat] <;> with_reducible rfl)); (case he => (simp only [go_sem] <;> with_reducible rfl)); (case hcl => (simp)); (case hf => (simp only [go_sem] <;> with_reducible rfl)))
        | fail)
      all_goals try (first | exact True.intro | omega)
      all_goals try (simp (disch := first | omega | (simp only [go_sem]; omega)) only [go_sem, get_miss, seval, reduceCtorEq] <;> first | exact True.intro | omega)
      all_goals exact ⟨k + 1, by omega, Sub.of_all (by simp [Fr.get, en]), rfl, by omega⟩
    · have e0 : p[k]? = none := List.getElem?_eq_none (by omega)
      repeat' (first
        | refine aC_seq ?_
        | refine aC_reg rfl ?_
        | refine aC_block ?_
        | refine aC_skip ?_
        | refine aC_loop ?_
        | refine aC_scope ?_
        | refine scopeQ_normal ?_
        | refine scopeQ_exit ?_
        | refine scopeQ_ret ?_
        | refine aC_exit ?_
        | refine aC_ret ?_
        | refine thenQ_normal ?_
        | refine blockQ_normal ?_
        | refine thenQ_ret ?_
        | refine blockQ_ret ?_
        | refine thenQ_exit ?_
        | refine blockQ_hit ?_
        | refine blockQ_miss rfl ?_
        | refine aL_nil ?_
        | (apply aL_step; (· exact True.intro); (· simp (disch := first | omega | (simp only [go_sem]; omega)) only [go_sem, get_miss, seval, reduceCtorEq, aStep_nextS, aNextS, e0]); (· simp (disch := first | omega | (simp only [go_sem]; omega)) only [go_sem, get_miss, seval, reduceCtorEq, aStep_nextS, aNextS, e0] <;> with_reducible rfl); (· simp only [go_sem] <;> with_reducible rfl))
        | (refine aL_skip ?_ (by simp only [go_sem] <;> with_reducible rfl) ?_; (· simp (disch := first | omega | (simp only [go_sem]; omega)) only [go_sem, get_miss, seval, reduceCtorEq, aStep_nextS, aNextS, e0]))
        | (apply aL_guardN; (· simp (disch := first | omega | (simp only [go_sem]; omega)) only [go_sem, get_miss, seval, reduceCtorEq, aStep_nextS, aNextS, e0] <;> with_reducible rfl); all_goals (intro h; first | (exfalso; omega) | (simp only [h, decide_true, decide_false, not_true, not_false_iff])))
        | (apply aL_guardP; (· simp (disch := first | omega | (simp only [go_sem]; omega)) only [go_sem, get_miss, seval, reduceCtorEq, aStep_nextS, aNextS, e0] <;> with_reducible rfl); all_goals (intro h; first | (exfalso; omega) | (simp only [h, decide_true, decide_false, not_true, not_false_iff])))
        | (refine aC_condT ?_ ?_; (· simp (disch := first | omega | (simp only [go_sem]; omega)) only [go_sem, get_miss, seval, reduceCtorEq, aStep_nextS, aNextS, e0]))
        | (refine aC_condF ?_ ?_; (· simp (disch := first | omega | (simp only [go_sem]; omega)) only [go_sem, get_miss, seval, reduceCtorEq, aStep_nextS, aNextS, e0]))
        | (refine aC_condP (by simp (disch := first | omega | (simp only [go_sem]; omega)) only [go_sem, get_miss, seval, reduceCtorEq, aStep_nextS, aNextS, e0] <;> with_reducible rfl) ?_ ?_ <;> (intro h; first | (exfalso; omega) | skip))
        | fail)
      all_goals try (first | exact True.intro | omega)
      all_goals try (simp (disch := first | omega | (simp only [go_sem]; omega)) only [go_sem, get_miss, seval, reduceCtorEq] <;> first | exact True.intro | omega)
      have hk2 : k = p.length := by omega
      subst hk2
      simp (disch := first | omega | (simp only [go_sem]; omega)) only [go_sem, get_miss, seval, reduceCtorEq, List.take_length]
      simp
  all_goals try (first | exact True.intro | omega)
  all_goals try (simp (disch := first | omega | (simp only [go_sem]; omega)) only [go_sem, get_miss, seval, reduceCtorEq] <;> first | exact True.intro | omega)

theorem frm_parts {op : Int} (h : 1 ≤ op ∧ op ≤ 17) : (frm op).1.length ≤ 10 ∧ (frm op).2.length ≤ 3 ∧ ∀ c ∈ (frm op).2, c = 100 ∨ c = 97 ∨ c = 98 ∨ c = 105 := by
  rcases ops_cases op with (rfl | rfl | rfl | rfl | rfl | rfl | rfl | rfl | rfl | rfl | rfl | rfl | rfl | rfl | rfl | rfl | rfl) | h'
  iterate 17 exact ⟨by decide, by decide, by simp [frm]⟩
  omega

theorem cpu_text {op d a b imm : Int} (ho : 1 ≤ op ∧ op ≤ 17) (hd : 0 ≤ d ∧ d < 8) (ha : 0 ≤ a ∧ a < 8) (hb : 0 ≤ b ∧ b < 8) (hi : -2147483648 ≤ imm ∧ imm ≤ 2147483647) :
    APure cx 38 [.agg [.int .i64 op, .int .i64 d, .int .i64 a, .int .i64 b, .int .i64 imm], .agg [.str (frm op).1, .str (frm op).2]] (.str (txt op d a b imm)) := by
  obtain ⟨h1, h2, h3⟩ := frm_parts ho
  exact cpu_text_walk _ _ _ _ _ _ op d a b imm h1 h2 h3 (itoa_len d (by omega) (by omega)) (itoa_len a (by omega) (by omega)) (itoa_len b (by omega) (by omega)) (itoa_len imm (by omega) (by omega))
    (a_itoa d (by omega) (by omega)) (a_itoa a (by omega) (by omega)) (a_itoa b (by omega) (by omega)) (a_format imm (by omega) (by omega))

theorem cpu_Text (op d a b imm : Int) (h0 : -9223372036854775808 ≤ imm) (h1 : imm ≤ 9223372036854775807) :
    APure cx 20 [.agg [.int .i64 op, .int .i64 d, .int .i64 a, .int .i64 b, .int .i64 imm]]
      (if MayF op d a b imm (frm op).1 (frm op).2 then .tup [.str (txt op d a b imm), .int .i64 0] else .tup [.str [], .int .i64 2]) := by
  have hm := cpu_may op d a b imm (frm op).1 (frm op).2 h0 h1
  have hl := look_forms (fun _ => false) fe20.q (S := ([ABox.cells [.int .i64 op, .int .i64 d, .int .i64 a, .int .i64 b, .int .i64 imm] 26] ++ [.hole]) ++ [.mpx FORMS 17]) (b := 2) op rfl
  by_cases h : MayF op d a b imm (frm op).1 (frm op).2
  case' pos =>
    rw [decide_eq_true h] at hm
    rw [if_pos h]
    have ht := cpu_text (may_range h).1 (may_range h).2.1 (may_range h).2.2.1 (may_range h).2.2.2.1 (may_range h).2.2.2.2
    generalize txt op d a b imm = X at ht ⊢
    clear h
  case' neg =>
    rw [decide_eq_false h] at hm
    rw [if_neg h]
    clear h
  all_goals
  refine pure_fn cxOk Tryd.func20 (by kernel_rfl) (fun _ => false) (fe20.q) (by kernel_rfl) (Nat.le_of_ble_eq_true (by kernel_rfl)) ?_
  dsimp only [LB, Tryd.f20, lite, nextOf, Option.isNone, Bool.not_true, Bool.not_false, Bool.and_true, Bool.true_and, Bool.false_and, Bool.and_self, Bool.false_eq_true, if_false, if_true, ↓reduceIte, liteO, List.map, Option.map, frame0, List.zipIdx, Nat.reduceAdd]
  try simp only [List.getElem?_toArray, List.getElem?_cons_succ, List.getElem?_cons_zero, Option.bind_some]
  repeat' (first
    | refine aC_seq ?_
    | refine aC_reg rfl ?_
    | refine aC_block ?_
    | refine aC_skip ?_
    | refine aC_loop ?_
    | refine aC_scope ?_
    | refine scopeQ_normal ?_
    | refine scopeQ_exit ?_
    | refine scopeQ_ret ?_
    | refine aC_exit ?_
    | refine aC_ret ?_
    | refine thenQ_normal ?_
    | refine blockQ_normal ?_
    | refine thenQ_ret ?_
    | refine blockQ_ret ?_
    | refine thenQ_exit ?_
    | refine blockQ_hit ?_
    | refine blockQ_miss rfl ?_
    | refine aL_nil ?_
    | (apply aL_step; (· exact True.intro); (· simp (disch := first | omega | (simp only [go_sem]; omega)) only [go_sem, get_miss, seval, reduceCtorEq]); (· simp (disch := first | omega | (simp only [go_sem]; omega)) only [go_sem, get_miss, seval, reduceCtorEq] <;> with_reducible rfl); (· simp only [go_sem] <;> with_reducible rfl))
    | (refine aL_skip ?_ (by simp only [go_sem] <;> with_reducible rfl) ?_; (· simp (disch := first | omega | (simp only [go_sem]; omega)) only [go_sem, get_miss, seval, reduceCtorEq]))
    | (apply aL_guardN; (· simp (disch := first | omega | (simp only [go_sem]; omega)) only [go_sem, get_miss, seval, reduceCtorEq] <;> with_reducible rfl); all_goals (intro h; first | (exfalso; omega) | (simp only [h, decide_true, decide_false, not_true, not_false_iff])))
    | (apply aL_guardP; (· simp (disch := first | omega | (simp only [go_sem]; omega)) only [go_sem, get_miss, seval, reduceCtorEq] <;> with_reducible rfl); all_goals (intro h; first | (exfalso; omega) | (simp only [h, decide_true, decide_false, not_true, not_false_iff])))
    | (refine aC_condT ?_ ?_; (· simp (disch := first | omega | (simp only [go_sem]; omega)) only [go_sem, get_miss, seval, reduceCtorEq]))
    | (refine aC_condF ?_ ?_; (· simp (disch := first | omega | (simp only [go_sem]; omega)) only [go_sem, get_miss, seval, reduceCtorEq]))
    | (refine aC_condP (by simp (disch := first | omega | (simp only [go_sem]; omega)) only [go_sem, get_miss, seval, reduceCtorEq] <;> with_reducible rfl) ?_ ?_ <;> (intro h; first | (exfalso; omega) | skip))
    | fail)
  refine aC_regH (U := [(some 7, some 5), (some 7, some 4), (some 8, some 4)]) rfl [(some 7, 0), (some 8, 2)] [(1, .cells [.str [], .str []] 85)] 1 ?_
  simp only [List.replicate]
  repeat' (first
    | refine aLH_nil ?_
    | (apply aLH_step; (· exact True.intro); (· rfl); (· rfl); (· simp (disch := first | omega | (simp only [go_sem]; omega)) only [go_sem, get_miss, seval, reduceCtorEq]); (· simp (disch := first | omega | (simp only [go_sem]; omega)) only [go_sem, get_miss, seval, reduceCtorEq] <;> with_reducible rfl); (· simp only [go_sem] <;> with_reducible rfl); (· (intro b hb; first | (cases hb; done) | (simp (disch := first | omega | (simp only [go_sem]; omega)) only [loadBox, go_sem, get_miss, seval, reduceCtorEq] at hb; (try injection hb with hb); subst hb; simp))))
    | (apply aLH_write; (· exact True.intro); (· rfl); (· rfl); (· rfl); (· simp (disch := first | omega | (simp only [go_sem]; omega)) only [go_sem, get_miss, seval, reduceCtorEq]); (· simp (disch := first | omega | (simp only [go_sem]; omega)) only [go_sem, get_miss, seval, reduceCtorEq] <;> with_reducible rfl); (· simp only [go_sem] <;> with_reducible rfl); (· simp); (· simp); (· simp))
    | (refine aLH_skip ?_ (by simp only [go_sem] <;> with_reducible rfl) ?_; (· simp (disch := first | omega | (simp only [go_sem]; omega)) only [go_sem, get_miss, seval, reduceCtorEq]))
    | (apply aLH_fresh (cpu_forms); (case hg => (simp (disch := first | omega | (simp only [go_sem]; omega)) only [go_sem, get_miss, seval, reduceCtorEq])); (case hx => (simp (disch := first | omega | (simp only [go_sem]; omega)) only [go_sem, get_miss, seval, reduceCtorEq] <;> with_reducible rfl)); (case ha => (simp (disch := first | omega | (simp only [go_sem]; omega)) only [go_sem, get_miss, seval, reduceCtorEq] <;> with_reducible rfl)); (case he => (with_reducible rfl)); (case hp => (rfl)); (case hz => (intro h; cases h)); (case hB => (simp)); (case hf => (simp only [go_sem] <;> with_reducible rfl)))
    | (apply aLH_lookX (hl); (case hg => (simp (disch := first | omega | (simp only [go_sem]; omega)) only [go_sem, get_miss, seval, reduceCtorEq])); (case hm => (simp (disch := first | omega | (simp only [go_sem]; omega)) only [go_sem, get_miss, seval, reduceCtorEq] <;> with_reducible rfl)); (case hk => (simp (disch := first | omega | (simp only [go_sem]; omega)) only [go_sem, get_miss, seval, reduceCtorEq] <;> with_reducible rfl)); (case hB => (simp)); (case hf => (simp only [go_sem] <;> with_reducible rfl)))
    | (apply aLH_alloc 1; (case hg => (simp (disch := first | omega | (simp only [go_sem]; omega)) only [go_sem, get_miss, seval, reduceCtorEq])); (case hi => (simp (disch := first | omega | (simp only [go_sem]; omega)) only [go_sem, get_miss, seval, reduceCtorEq] <;> with_reducible rfl)); (case hs => (simp (disch := first | omega | (simp only [go_sem]; omega)) only [go_sem, get_miss, seval, reduceCtorEq] <;> with_reducible rfl)); (case hS => (simp (disch := first | omega | (simp only [go_sem]; omega)) only [go_sem, get_miss, seval, reduceCtorEq] <;> with_reducible rfl)); (case hf => (simp only [go_sem] <;> with_reducible rfl)); (case hH => (simp)); (case hk => (simp)))
    | fail)
  repeat' (first
    | refine aC_seq ?_
    | refine aC_reg rfl ?_
    | refine aC_block ?_
    | refine aC_skip ?_
    | refine aC_loop ?_
    | refine aC_scope ?_
    | refine scopeQ_normal ?_
    | refine scopeQ_exit ?_
    | refine scopeQ_ret ?_
    | refine aC_exit ?_
    | refine aC_ret ?_
    | refine thenQ_normal ?_
    | refine blockQ_normal ?_
    | refine thenQ_ret ?_
    | refine blockQ_ret ?_
    | refine thenQ_exit ?_
    | refine blockQ_hit ?_
    | refine blockQ_miss rfl ?_
    | refine aL_nil ?_
    | (apply aL_step; (· exact True.intro); (· simp (disch := first | omega | (simp only [go_sem]; omega)) only [go_sem, get_miss, seval, reduceCtorEq]); (· simp (disch := first | omega | (simp only [go_sem]; omega)) only [go_sem, get_miss, seval, reduceCtorEq] <;> with_reducible rfl); (· simp only [go_sem] <;> with_reducible rfl))
    | (refine aL_skip ?_ (by simp only [go_sem] <;> with_reducible rfl) ?_; (· simp (disch := first | omega | (simp only [go_sem]; omega)) only [go_sem, get_miss, seval, reduceCtorEq]))
    | (apply aL_guardN; (· simp (disch := first | omega | (simp only [go_sem]; omega)) only [go_sem, get_miss, seval, reduceCtorEq] <;> with_reducible rfl); all_goals (intro h; first | (exfalso; omega) | (simp only [h, decide_true, decide_false, not_true, not_false_iff])))
    | (apply aL_guardP; (· simp (disch := first | omega | (simp only [go_sem]; omega)) only [go_sem, get_miss, seval, reduceCtorEq] <;> with_reducible rfl); all_goals (intro h; first | (exfalso; omega) | (simp only [h, decide_true, decide_false, not_true, not_false_iff])))
    | (refine aC_condT ?_ ?_; (· simp (disch := first | omega | (simp only [go_sem]; omega)) only [go_sem, get_miss, seval, reduceCtorEq]))
    | (refine aC_condF ?_ ?_; (· simp (disch := first | omega | (simp only [go_sem]; omega)) only [go_sem, get_miss, seval, reduceCtorEq]))
    | (refine aC_condP (by simp (disch := first | omega | (simp only [go_sem]; omega)) only [go_sem, get_miss, seval, reduceCtorEq] <;> with_reducible rfl) ?_ ?_ <;> (intro h; first | (exfalso; omega) | skip))
    | (apply aL_pure cxG (ht); (case hg => (simp (disch := first | omega | (simp only [go_sem]; omega)) only [go_sem, get_miss, seval, reduceCtorEq])); (case hx => (simp (disch := first | omega | (simp only [go_sem]; omega)) only [go_sem, get_miss, seval, reduceCtorEq] <;> with_reducible rfl)); (case ha => (simp (disch := first | omega | (simp only [go_sem]; omega)) only [go_sem, get_miss, seval, reduceCtorEq] <;> with_reducible rfl)); (case he => (simp only [go_sem] <;> with_reducible rfl)); (case hcl => (simp)); (case hf => (simp only [go_sem] <;> with_reducible rfl)))
    | (apply aL_pure cxG (hm); (case hg => (simp (disch := first | omega | (simp only [go_sem]; omega)) only [go_sem, get_miss, seval, reduceCtorEq])); (case hx => (simp (disch := first | omega | (simp only [go_sem]; omega)) only [go_sem, get_miss, seval, reduceCtorEq] <;> with_reducible rfl)); (case ha => (simp (disch := first | omega | (simp only [go_sem]; omega)) only [go_sem, get_miss, seval, reduceCtorEq] <;> with_reducible rfl)); (case he => (simp only [go_sem] <;> with_reducible rfl)); (case hcl => (simp)); (case hf => (simp only [go_sem] <;> with_reducible rfl)))
    | fail)
  all_goals try (first | exact True.intro | omega)
  all_goals try (simp (disch := first | omega | (simp only [go_sem]; omega)) only [go_sem, get_miss, seval, reduceCtorEq] <;> first | exact True.intro | omega)
  all_goals try (simp (disch := first | omega | (simp only [go_sem]; omega)) only [go_sem, get_miss, seval, reduceCtorEq])
  all_goals try simp
  all_goals exact ⟨frm_keys op, frm_one op⟩

end Go.Am
