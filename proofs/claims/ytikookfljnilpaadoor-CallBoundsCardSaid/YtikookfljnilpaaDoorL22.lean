/- call.Unlist. -/
import Derived.Test.YtikookfljnilpaaDoorL21
section
set_option linter.unusedVariables false
set_option linter.unusedSimpArgs false
namespace Go.Am
open Go Go.Proofs
set_option linter.unusedSimpArgs false
set_option linter.unusedVariables false
set_option maxHeartbeats 8000000
set_option maxRecDepth 100000
section
attribute [local irreducible] aC aL thenQ blockQ scopeQ ALoop AWp

theorem call_Unlist (s : List UInt8) (L : List (List UInt8)) (rest : List UInt8) (hs : s.length ≤ 1048576) (hp : parts s [10] = L ++ [rest]) (hL10 : ∀ x ∈ L, (10 : UInt8) ∉ x) (hr10 : (10 : UInt8) ∉ rest) (hj : s = jn L rest) (r : AVal) (hr : UnR L rest r) :
    APure cx 32 [.str s] r := by
  have hsz := jn_sizes L rest
  rw [← hj] at hsz
  have hct := a_count s
  have hcn := jn_count L rest hL10 hr10
  rw [← hj] at hcn
  rw [hcn] at hct
  have hsf := a_suffix s (by omega)
  have hsx := jn_suffix L rest hr10
  rw [← hj] at hsx
  rw [hsx] at hsf
  have hLs : L.length ≤ 1048576 := by have := hsz.2.2; omega
  have hs0 : s = [] ↔ L = [] ∧ rest = [] := by
    rw [hj]
    cases L with
    | nil => simp [jn]
    | cons y L => rw [jn_cons]; simp
  by_cases hlong : Long L rest
  case pos =>
    have hr' : r = .tup [.sl 1 true [] .any, .int .i64 0, .int .i64 3] := by
      rcases hr with ⟨_, e⟩ | ⟨h, _⟩ | ⟨h, _⟩
      · exact e
      · exact absurd hlong h
      · exact absurd hlong h
    subst hr'
    have hne : s ≠ [] := fun e => by
      have := hs0.1 e
      rcases hlong with h | ⟨h, _⟩
      · rw [this.1] at h; simp at h
      · rw [this.1] at h; simp at h
    have hb : (s == []) = false := by simp [hne]
    have hLne : L ≠ [] := fun e => by
      rcases hlong with h | ⟨h, _⟩ <;> (rw [e] at h; simp at h)
    by_cases hre : rest = []
    case' pos =>
      rw [decide_eq_true ⟨hre, hLne⟩] at hsf
      have h6 : 65536 < L.length := by
        rcases hlong with h | ⟨_, h⟩
        · exact h
        · exact absurd hre h
    case' neg =>
      rw [decide_eq_false (fun k => hre k.1)] at hsf
      have h6 : 65536 ≤ L.length := by rcases hlong with h | ⟨h, _⟩ <;> omega
    all_goals
    clear hlong hr hsx hcn hsz hs0 hp hj hL10 hr10
    generalize L.length = n at *
    refine pure_fn cxOk Tryd.func32 (by kernel_rfl) (fun _ => false) (fun _ => none) (by kernel_rfl) (Nat.le_of_ble_eq_true (by kernel_rfl)) ?_
    dsimp only [LB, Tryd.f32, lite, nextOf, Option.isNone, Bool.not_true, Bool.not_false, Bool.and_true, Bool.true_and, Bool.false_and, Bool.and_self, Bool.false_eq_true, if_false, if_true, ↓reduceIte, liteO, List.map, Option.map, frame0, List.zipIdx, Nat.reduceAdd]
    try simp only [List.getElem?_toArray, List.getElem?_cons_succ, List.getElem?_cons_zero, Option.bind_some]
    repeat' (first
      | refine aC_seq ?_
      | refine aC_reg rfl ?_
      | refine aC_skip ?_
      | refine aC_scope ?_
      | refine scopeQ_ret ?_
      | refine aC_ret ?_
      | refine thenQ_normal ?_
      | refine thenQ_ret ?_
      | refine aL_nil ?_
      | (apply aL_step; (· exact True.intro); (· simp (disch := first | omega | (simp only [go_sem]; omega)) only [go_sem, get_miss, seval, reduceCtorEq, hb, hne, decide_true, decide_false, not_false_eq_true]); (· simp (disch := first | omega | (simp only [go_sem]; omega)) only [go_sem, get_miss, seval, reduceCtorEq, hb, hne, decide_true, decide_false, not_false_eq_true] <;> with_reducible rfl); (· simp only [go_sem] <;> with_reducible rfl))
      | (refine aC_condT ?_ ?_; (· simp (disch := first | omega | (simp only [go_sem]; omega)) only [go_sem, get_miss, seval, reduceCtorEq, hb, hne, decide_true, decide_false, not_false_eq_true]))
      | (refine aC_condF ?_ ?_; (· simp (disch := first | omega | (simp only [go_sem]; omega)) only [go_sem, get_miss, seval, reduceCtorEq, hb, hne, decide_true, decide_false, not_false_eq_true]))
      | (refine aC_condP (by simp (disch := first | omega | (simp only [go_sem]; omega)) only [go_sem, get_miss, seval, reduceCtorEq, hb, hne, decide_true, decide_false, not_false_eq_true] <;> with_reducible rfl) ?_ ?_ <;> (intro h; first | (exfalso; omega) | skip))
      | (apply aL_pure cxG (hct); (case hg => (simp (disch := first | omega | (simp only [go_sem]; omega)) only [go_sem, get_miss, seval, reduceCtorEq, hb, hne, decide_true, decide_false, not_false_eq_true])); (case hx => (simp (disch := first | omega | (simp only [go_sem]; omega)) only [go_sem, get_miss, seval, reduceCtorEq, hb, hne, decide_true, decide_false, not_false_eq_true] <;> with_reducible rfl)); (case ha => (simp (disch := first | omega | (simp only [go_sem]; omega)) only [go_sem, get_miss, seval, reduceCtorEq, hb, hne, decide_true, decide_false, not_false_eq_true] <;> with_reducible rfl)); (case he => (simp only [go_sem] <;> with_reducible rfl)); (case hcl => (simp)); (case hf => (simp only [go_sem] <;> with_reducible rfl)))
      | (apply aL_pure cxG (hsf); (case hg => (simp (disch := first | omega | (simp only [go_sem]; omega)) only [go_sem, get_miss, seval, reduceCtorEq, hb, hne, decide_true, decide_false, not_false_eq_true])); (case hx => (simp (disch := first | omega | (simp only [go_sem]; omega)) only [go_sem, get_miss, seval, reduceCtorEq, hb, hne, decide_true, decide_false, not_false_eq_true] <;> with_reducible rfl)); (case ha => (simp (disch := first | omega | (simp only [go_sem]; omega)) only [go_sem, get_miss, seval, reduceCtorEq, hb, hne, decide_true, decide_false, not_false_eq_true] <;> with_reducible rfl)); (case he => (simp only [go_sem] <;> with_reducible rfl)); (case hcl => (simp)); (case hf => (simp only [go_sem] <;> with_reducible rfl)))
      | fail)
    all_goals try (first | exact True.intro | exact not_false | omega)
    all_goals try (simp (disch := first | omega | (simp only [go_sem]; omega)) only [go_sem, get_miss, seval, reduceCtorEq] <;> first | exact True.intro | omega)
    all_goals (clear hct hsf)
    all_goals try (simp (disch := first | omega | (simp only [go_sem]; omega)) only [go_sem, get_miss, seval, reduceCtorEq])
    all_goals try simp
  case neg =>
  obtain ⟨f1, f2, f3⟩ := unR_facts hr hlong
  have hnl : L.length ≤ 65536 ∧ (rest ≠ [] → L.length < 65536) := by
    refine ⟨Decidable.byContradiction fun h => hlong (.inl (by omega)), fun h => Decidable.byContradiction fun g => hlong ?_⟩
    by_cases e : L.length = 65536
    · exact .inr ⟨e, h⟩
    · exact .inl (by omega)
  have main : ∀ (n : Nat), n ≤ 65536 → n ≤ 65536 → True := fun _ _ _ => trivial
  clear hr main
  have hrl : rest.length ≤ 1048576 := by have := hsz.2.1; omega
  have hxl : ∀ x ∈ L, x.length ≤ 1048576 := fun x hx => by have := hsz.1 x hx; omega
  have hjl : ∀ k, k ≤ L.length → (jn (L.drop k) rest).length ≤ 1048576 := fun k _ => by
    have e : jn L rest = jn (L.take k) [] ++ jn (L.drop k) rest := by
      unfold jn
      rw [List.append_nil, ← List.append_assoc, ← List.flatMap_append, List.take_append_drop]
    have := congrArg List.length e
    rw [List.length_append, ← hj] at this
    omega
  have hbool : ∃ b1 b2 : Bool, (s == []) = b1 ∧ decide (rest = [] ∧ L ≠ []) = b2 ∧ ((b1 = true ∧ L = [] ∧ rest = []) ∨ (b1 = false ∧ s ≠ [] ∧ b2 = true) ∨ (b1 = false ∧ s ≠ [] ∧ b2 = false ∧ L.length < 65536)) := by
    refine ⟨_, _, rfl, rfl, ?_⟩
    by_cases h0 : s = []
    · exact .inl ⟨by simp [h0], hs0.1 h0⟩
    · by_cases h1 : rest = [] ∧ L ≠ []
      · exact .inr (.inl ⟨by simp [h0], h0, decide_eq_true h1⟩)
      · refine .inr (.inr ⟨by simp [h0], h0, decide_eq_false h1, hnl.2 fun e => h1 ⟨e, fun e2 => h0 (hs0.2 ⟨e2, e⟩)⟩⟩)
  obtain ⟨b1, b2, hb1, hb2, hbb⟩ := hbool
  rw [hb2] at hsf
  have hn6 := hnl.1
  have hjs : jn (L.drop 0) rest = s := by rw [List.drop_zero, hj]
  clear hsx hcn hs0 hp hlong hnl hb2
  rcases hbb with ⟨rfl, e1, e2⟩ | ⟨rfl, hne, rfl⟩ | ⟨rfl, hne, rfl, hlt6⟩
  case inl =>
    subst e1 e2
    rw [jn_nil] at hj
    subst hj
    rw [f1 (by simp) rfl]
    rw [show AVal.sl 7 (([] : List (List UInt8)).map callL).isEmpty (cvs (([] : List (List UInt8)).map callL)) .any = .sl 7 true [] .any from rfl]
    clear f1 f2 f3 hxl hjl hsz hjs
    refine pure_fn cxOk Tryd.func32 (by kernel_rfl) (fun _ => false) (fun _ => none) (by kernel_rfl) (Nat.le_of_ble_eq_true (by kernel_rfl)) ?_
    dsimp only [LB, Tryd.f32, lite, nextOf, Option.isNone, Bool.not_true, Bool.not_false, Bool.and_true, Bool.true_and, Bool.false_and, Bool.and_self, Bool.false_eq_true, if_false, if_true, ↓reduceIte, liteO, List.map, Option.map, frame0, List.zipIdx, Nat.reduceAdd]
    try simp only [List.getElem?_toArray, List.getElem?_cons_succ, List.getElem?_cons_zero, Option.bind_some]
    repeat' (first
      | refine aC_seq ?_
      | refine aC_reg rfl ?_
      | refine aC_block ?_
      | refine aC_skip ?_
      | refine aC_loop ?_
      | refine aC_scope ?_
      | refine thenQ_normal ?_
      | refine aL_nil ?_
      | (apply aL_step; (· exact True.intro); (· simp (disch := first | omega | (simp only [go_sem]; omega)) only [go_sem, get_miss, seval, reduceCtorEq, hb1]); (· simp (disch := first | omega | (simp only [go_sem]; omega)) only [go_sem, get_miss, seval, reduceCtorEq, hb1] <;> with_reducible rfl); (· simp only [go_sem] <;> with_reducible rfl))
      | (refine aL_skip ?_ (by simp only [go_sem] <;> with_reducible rfl) ?_; (· simp (disch := first | omega | (simp only [go_sem]; omega)) only [go_sem, get_miss, seval, reduceCtorEq, hb1]))
      | (refine aC_condF ?_ ?_; (· simp (disch := first | omega | (simp only [go_sem]; omega)) only [go_sem, get_miss, seval, reduceCtorEq, hb1]))
      | (apply aL_pure cxG (hct); (case hg => (simp (disch := first | omega | (simp only [go_sem]; omega)) only [go_sem, get_miss, seval, reduceCtorEq, hb1])); (case hx => (simp (disch := first | omega | (simp only [go_sem]; omega)) only [go_sem, get_miss, seval, reduceCtorEq, hb1] <;> with_reducible rfl)); (case ha => (simp (disch := first | omega | (simp only [go_sem]; omega)) only [go_sem, get_miss, seval, reduceCtorEq, hb1] <;> with_reducible rfl)); (case he => (simp only [go_sem] <;> with_reducible rfl)); (case hcl => (simp)); (case hf => (simp only [go_sem] <;> with_reducible rfl)))
      | (apply aL_acall (call_table _); (case hg => (simp (disch := first | omega | (simp only [go_sem]; omega)) only [go_sem, get_miss, seval, reduceCtorEq, hb1])); (case hx => (simp (disch := first | omega | (simp only [go_sem]; omega)) only [go_sem, get_miss, seval, reduceCtorEq, hb1] <;> with_reducible rfl)); (case ha => (simp (disch := first | omega | (simp only [go_sem]; omega)) only [go_sem, get_miss, seval, reduceCtorEq, hb1] <;> with_reducible rfl)); (case he => (with_reducible rfl)); (case hp => (rfl)); (case hf => (simp only [go_sem] <;> with_reducible rfl)))
      | fail)
    · refine loop_rule (cxOk.wp _ _) (σ := Unit) (fun _ => [(9, .str []), (8, .int .i64 (-1)), (7, .sl 7 true [] (.grow 1))]) (fun _ => [.mpx TABLE 21, .grow 0 7 32]) (fun _ => 0) (fun _ => True)
        () (GStep.nil 7 7 32 rfl) ⟨trivial, Sub.of_all (by simp [Fr.get]), by simp⟩ ?_
      intro _ _
      repeat' (first
        | refine aC_seq ?_
        | refine aC_reg rfl ?_
        | refine aC_skip ?_
        | refine scopeQ_ret ?_
        | refine aC_exit ?_
        | refine aC_ret ?_
        | refine thenQ_normal ?_
        | refine thenQ_exit ?_
        | refine blockQ_hit ?_
        | refine aL_nil ?_
        | (apply aL_step; (· exact True.intro); (· simp (disch := first | omega | (simp only [go_sem]; omega)) only [go_sem, get_miss, seval, reduceCtorEq]); (· simp (disch := first | omega | (simp only [go_sem]; omega)) only [go_sem, get_miss, seval, reduceCtorEq] <;> with_reducible rfl); (· simp only [go_sem] <;> with_reducible rfl))
        | (refine aC_condF ?_ ?_; (· simp (disch := first | omega | (simp only [go_sem]; omega)) only [go_sem, get_miss, seval, reduceCtorEq]))
        | fail)
      all_goals try (first | exact True.intro | exact not_false | omega)
      all_goals try (simp (disch := first | omega | (simp only [go_sem]; omega)) only [go_sem, get_miss, seval, reduceCtorEq] <;> first | exact True.intro | omega)
      all_goals try (simp (disch := first | omega | (simp only [go_sem]; omega)) only [go_sem, get_miss, seval, reduceCtorEq])
      all_goals try simp
    all_goals first | trivial | omega
  all_goals
  refine pure_fn cxOk Tryd.func32 (by kernel_rfl) (fun _ => false) (fun _ => none) (by kernel_rfl) (Nat.le_of_ble_eq_true (by kernel_rfl)) ?_
  dsimp only [LB, Tryd.f32, lite, nextOf, Option.isNone, Bool.not_true, Bool.not_false, Bool.and_true, Bool.true_and, Bool.false_and, Bool.and_self, Bool.false_eq_true, if_false, if_true, ↓reduceIte, liteO, List.map, Option.map, frame0, List.zipIdx, Nat.reduceAdd]
  try simp only [List.getElem?_toArray, List.getElem?_cons_succ, List.getElem?_cons_zero, Option.bind_some]
  repeat' (first
    | refine aC_seq ?_
    | refine aC_reg rfl ?_
    | refine aC_block ?_
    | refine aC_skip ?_
    | refine aC_loop ?_
    | refine aC_scope ?_
    | refine thenQ_normal ?_
    | refine aL_nil ?_
    | (apply aL_step; (· exact True.intro); (· simp (disch := first | omega | (simp only [go_sem]; omega)) only [go_sem, get_miss, seval, reduceCtorEq, hb1, hne, decide_true, decide_false, not_false_eq_true]); (· simp (disch := first | omega | (simp only [go_sem]; omega)) only [go_sem, get_miss, seval, reduceCtorEq, hb1, hne, decide_true, decide_false, not_false_eq_true] <;> with_reducible rfl); (· simp only [go_sem] <;> with_reducible rfl))
    | (refine aC_condT ?_ ?_; (· simp (disch := first | omega | (simp only [go_sem]; omega)) only [go_sem, get_miss, seval, reduceCtorEq, hb1, hne, decide_true, decide_false, not_false_eq_true]))
    | (refine aC_condF ?_ ?_; (· simp (disch := first | omega | (simp only [go_sem]; omega)) only [go_sem, get_miss, seval, reduceCtorEq, hb1, hne, decide_true, decide_false, not_false_eq_true]))
    | (refine aC_condP (by simp (disch := first | omega | (simp only [go_sem]; omega)) only [go_sem, get_miss, seval, reduceCtorEq, hb1, hne, decide_true, decide_false, not_false_eq_true] <;> with_reducible rfl) ?_ ?_ <;> (intro h; first | (exfalso; omega) | skip))
    | (apply aL_pure cxG (hct); (case hg => (simp (disch := first | omega | (simp only [go_sem]; omega)) only [go_sem, get_miss, seval, reduceCtorEq, hb1, hne, decide_true, decide_false, not_false_eq_true])); (case hx => (simp (disch := first | omega | (simp only [go_sem]; omega)) only [go_sem, get_miss, seval, reduceCtorEq, hb1, hne, decide_true, decide_false, not_false_eq_true] <;> with_reducible rfl)); (case ha => (simp (disch := first | omega | (simp only [go_sem]; omega)) only [go_sem, get_miss, seval, reduceCtorEq, hb1, hne, decide_true, decide_false, not_false_eq_true] <;> with_reducible rfl)); (case he => (simp only [go_sem] <;> with_reducible rfl)); (case hcl => (simp)); (case hf => (simp only [go_sem] <;> with_reducible rfl)))
    | (apply aL_pure cxG (hsf); (case hg => (simp (disch := first | omega | (simp only [go_sem]; omega)) only [go_sem, get_miss, seval, reduceCtorEq, hb1, hne, decide_true, decide_false, not_false_eq_true])); (case hx => (simp (disch := first | omega | (simp only [go_sem]; omega)) only [go_sem, get_miss, seval, reduceCtorEq, hb1, hne, decide_true, decide_false, not_false_eq_true] <;> with_reducible rfl)); (case ha => (simp (disch := first | omega | (simp only [go_sem]; omega)) only [go_sem, get_miss, seval, reduceCtorEq, hb1, hne, decide_true, decide_false, not_false_eq_true] <;> with_reducible rfl)); (case he => (simp only [go_sem] <;> with_reducible rfl)); (case hcl => (simp)); (case hf => (simp only [go_sem] <;> with_reducible rfl)))
    | (apply aL_acall (call_table _); (case hg => (simp (disch := first | omega | (simp only [go_sem]; omega)) only [go_sem, get_miss, seval, reduceCtorEq, hb1, hne, decide_true, decide_false, not_false_eq_true])); (case hx => (simp (disch := first | omega | (simp only [go_sem]; omega)) only [go_sem, get_miss, seval, reduceCtorEq, hb1, hne, decide_true, decide_false, not_false_eq_true] <;> with_reducible rfl)); (case ha => (simp (disch := first | omega | (simp only [go_sem]; omega)) only [go_sem, get_miss, seval, reduceCtorEq, hb1, hne, decide_true, decide_false, not_false_eq_true] <;> with_reducible rfl)); (case he => (with_reducible rfl)); (case hp => (rfl)); (case hf => (simp only [go_sem] <;> with_reducible rfl)))
    | fail)
  · clear hct hsf
    refine loop_ruleD (cxOk.wp _ _) (cxG.wp _ _) (σ := Nat) (fun k => [(9, .str (jn (L.drop k) rest)), (8, .int .i64 (-1)), (7, .sl 7 ((L.take k).map callL).isEmpty (cvs ((L.take k).map callL)) (.grow 1)), (6, .map 0)])
      (fun k => [.mpx TABLE 21, .grow ((L.take k).map callL).length 7 32]) (fun k => L.length - k) (fun k => k ≤ L.length ∧ ∀ x ∈ L.take k, IsC x)
      2 0 (GStep.nil 7 7 32 rfl) ⟨⟨Nat.zero_le _, by simp⟩, Sub.of_all (by simp [Fr.get, ← hj, cvs]), by simp⟩ (by simp) (fun k _ => ⟨by simp [belS, belB]; kernel_rfl, by simp [belF, bel, bels_cvs, belT, Nat.blt]⟩) ?_
    rintro k ⟨hk, hJ⟩
    have htk : ((L.take k).map callL).length = k := by rw [List.length_map, List.length_take]; omega
    have hjk := hjl k hk
    by_cases hlt : k < L.length
    · have hdk : jn (L.drop k) rest = L[k] ++ 10 :: jn (L.drop (k + 1)) rest := by rw [List.drop_eq_getElem_cons hlt, jn_cons]
      have hcut := a_cut (jn (L.drop k) rest) (by omega)
      rw [hdk, cut_line _ _ (hL10 _ (List.getElem_mem hlt)), ← hdk] at hcut
      simp only at hcut
      have hne2 : jn (L.drop k) rest ≠ [] := by rw [hdk]; simp
      have hbn : (jn (L.drop k) rest == []) = false := by simp [hne2]
      have hx := hxl _ (List.getElem_mem hlt)
      have hsn := cl_snoc L k hlt
      have htk1 : ((L.take (k + 1)).map callL).length = k + 1 := by rw [List.length_map, List.length_take]; omega
      have hte : ((L.take (k + 1)).map callL).isEmpty = false := by
        cases hq : (L.take (k + 1)).map callL with
        | nil => rw [hq] at htk1; simp at htk1
        | cons => rfl
      by_cases hI : IsC L[k]
      · have hJ' : ∀ x ∈ L.take (k + 1), IsC x := by
          rw [List.take_succ_eq_append_getElem hlt]
          intro x hx
          rcases List.mem_append.1 hx with h | h
          · exact hJ x h
          · rw [List.mem_singleton.1 h]; exact hI
        have hI' := callL_is hI
        have hx6 := hI'.2.1
        have hu := fun (S : St) (h : S[0]? = some (.mpx TABLE 21)) => untext_lend (S := S) (i := 0) (untext_is hI') (plain_tcv _ _ true) h
        generalize hW : (L.take k).map callL = W at *
        have hu := hu [.mpx TABLE 21, .grow W.length 7 32] rfl
        clear f1 f2 f3 hI hI' hxl hjl hdk
        generalize hR : jn (L.drop k) rest = R at *
        generalize hR2 : jn (L.drop (k + 1)) rest = R2 at *
        generalize hC : callL L[k] = c at *
        generalize L[k] = x at *
        repeat' (first
          | refine aC_seq ?_
          | refine aC_reg rfl ?_
          | refine aC_block ?_
          | refine aC_skip ?_
          | refine thenQ_normal ?_
          | refine blockQ_normal ?_
          | refine aL_nil ?_
          | (apply aL_step; (· exact True.intro); (· simp (disch := first | omega | (simp only [go_sem]; omega)) only [go_sem, get_miss, seval, reduceCtorEq, hbn, hne2, hx6, decide_true, decide_false, not_false_eq_true, List.isEmpty_cons, Bool.and_false]); (· simp (disch := first | omega | (simp only [go_sem]; omega)) only [go_sem, get_miss, seval, reduceCtorEq, hbn, hne2, hx6, decide_true, decide_false, not_false_eq_true, List.isEmpty_cons, Bool.and_false] <;> with_reducible rfl); (· simp only [go_sem] <;> with_reducible rfl))
          | (refine aC_condT ?_ ?_; (· simp (disch := first | omega | (simp only [go_sem]; omega)) only [go_sem, get_miss, seval, reduceCtorEq, hbn, hne2, hx6, decide_true, decide_false, not_false_eq_true, List.isEmpty_cons, Bool.and_false]))
          | (refine aC_condF ?_ ?_; (· simp (disch := first | omega | (simp only [go_sem]; omega)) only [go_sem, get_miss, seval, reduceCtorEq, hbn, hne2, hx6, decide_true, decide_false, not_false_eq_true, List.isEmpty_cons, Bool.and_false]))
          | (apply aL_pure cxG (hcut); (case hg => (simp (disch := first | omega | (simp only [go_sem]; omega)) only [go_sem, get_miss, seval, reduceCtorEq, hbn, hne2, hx6, decide_true, decide_false, not_false_eq_true, List.isEmpty_cons, Bool.and_false])); (case hx => (simp (disch := first | omega | (simp only [go_sem]; omega)) only [go_sem, get_miss, seval, reduceCtorEq, hbn, hne2, hx6, decide_true, decide_false, not_false_eq_true, List.isEmpty_cons, Bool.and_false] <;> with_reducible rfl)); (case ha => (simp (disch := first | omega | (simp only [go_sem]; omega)) only [go_sem, get_miss, seval, reduceCtorEq, hbn, hne2, hx6, decide_true, decide_false, not_false_eq_true, List.isEmpty_cons, Bool.and_false] <;> with_reducible rfl)); (case he => (simp only [go_sem] <;> with_reducible rfl)); (case hcl => (simp)); (case hf => (simp only [go_sem] <;> with_reducible rfl)))
          | (apply aL_acall (hu); (case hg => (simp (disch := first | omega | (simp only [go_sem]; omega)) only [go_sem, get_miss, seval, reduceCtorEq, hbn, hne2, hx6, decide_true, decide_false, not_false_eq_true, List.isEmpty_cons, Bool.and_false])); (case hx => (simp (disch := first | omega | (simp only [go_sem]; omega)) only [go_sem, get_miss, seval, reduceCtorEq, hbn, hne2, hx6, decide_true, decide_false, not_false_eq_true, List.isEmpty_cons, Bool.and_false] <;> with_reducible rfl)); (case ha => (simp (disch := first | omega | (simp only [go_sem]; omega)) only [go_sem, get_miss, seval, reduceCtorEq, hbn, hne2, hx6, decide_true, decide_false, not_false_eq_true, List.isEmpty_cons, Bool.and_false] <;> with_reducible rfl)); (case he => (with_reducible rfl)); (case hp => (rfl)); (case hf => (simp only [go_sem] <;> with_reducible rfl)))
          | fail)
        all_goals try (first | exact True.intro | exact not_false | omega)
        all_goals try (simp (disch := first | omega | (simp only [go_sem]; omega)) only [go_sem, get_miss, seval, reduceCtorEq] <;> first | exact True.intro | omega)
        all_goals first | omega | exact not_false | skip
        all_goals
        refine ⟨k + 1, ⟨by omega, hJ'⟩, ?_, ?_, by omega⟩
        · show Sub _ [(9, .str (jn (L.drop (k + 1)) rest)), (8, .int .i64 (-1)), (7, .sl 7 ((L.take (k + 1)).map callL).isEmpty (cvs ((L.take (k + 1)).map callL)) (.grow 1)), (6, .map 0)]
          rw [← hsn, hte, hR2]
          exact Sub.of_all (by simp [Fr.get])
        · show _ = [ABox.mpx TABLE 21, .grow ((L.take (k + 1)).map callL).length 7 32]
          rw [htk1, ← htk]
          rfl
      · obtain ⟨op, xs, hx6, hn⟩ := untext_no hx (fun op xs h => hI ⟨op, xs, h⟩)
        have hr' := f2 k hlt hJ hI
        subst hr'
        generalize hW : (L.take k).map callL = W at *
        have hu := untext_lend (S := [.mpx TABLE 21, .grow W.length 7 32]) (i := 0) hn (plain_tcv _ _ false) rfl
        clear f1 f2 f3 hI hxl hjl hdk hn
        generalize hR : jn (L.drop k) rest = R at *
        generalize hR2 : jn (L.drop (k + 1)) rest = R2 at *
        generalize L[k] = x at *
        rw [htk] at hu ⊢
        repeat' (first
          | refine aC_seq ?_
          | refine aC_reg rfl ?_
          | refine aC_block ?_
          | refine aC_skip ?_
          | refine scopeQ_ret ?_
          | refine aC_exit ?_
          | refine aC_ret ?_
          | refine thenQ_normal ?_
          | refine thenQ_ret ?_
          | refine thenQ_exit ?_
          | refine blockQ_hit ?_
          | refine blockQ_miss rfl ?_
          | refine aL_nil ?_
          | (apply aL_step; (· exact True.intro); (· simp (disch := first | omega | (simp only [go_sem]; omega)) only [go_sem, get_miss, seval, reduceCtorEq, hbn, hne2, htk, decide_true, decide_false, not_false_eq_true]); (· simp (disch := first | omega | (simp only [go_sem]; omega)) only [go_sem, get_miss, seval, reduceCtorEq, hbn, hne2, htk, decide_true, decide_false, not_false_eq_true] <;> with_reducible rfl); (· simp only [go_sem] <;> with_reducible rfl))
          | (refine aL_skip ?_ (by simp only [go_sem] <;> with_reducible rfl) ?_; (· simp (disch := first | omega | (simp only [go_sem]; omega)) only [go_sem, get_miss, seval, reduceCtorEq, hbn, hne2, htk, decide_true, decide_false, not_false_eq_true]))
          | (refine aC_condT ?_ ?_; (· simp (disch := first | omega | (simp only [go_sem]; omega)) only [go_sem, get_miss, seval, reduceCtorEq, hbn, hne2, htk, decide_true, decide_false, not_false_eq_true]))
          | (refine aC_condP (by simp (disch := first | omega | (simp only [go_sem]; omega)) only [go_sem, get_miss, seval, reduceCtorEq, hbn, hne2, htk, decide_true, decide_false, not_false_eq_true] <;> with_reducible rfl) ?_ ?_ <;> (intro h; first | (exfalso; omega) | skip))
          | (apply aL_pure cxG (hcut); (case hg => (simp (disch := first | omega | (simp only [go_sem]; omega)) only [go_sem, get_miss, seval, reduceCtorEq, hbn, hne2, htk, decide_true, decide_false, not_false_eq_true])); (case hx => (simp (disch := first | omega | (simp only [go_sem]; omega)) only [go_sem, get_miss, seval, reduceCtorEq, hbn, hne2, htk, decide_true, decide_false, not_false_eq_true] <;> with_reducible rfl)); (case ha => (simp (disch := first | omega | (simp only [go_sem]; omega)) only [go_sem, get_miss, seval, reduceCtorEq, hbn, hne2, htk, decide_true, decide_false, not_false_eq_true] <;> with_reducible rfl)); (case he => (simp only [go_sem] <;> with_reducible rfl)); (case hcl => (simp)); (case hf => (simp only [go_sem] <;> with_reducible rfl)))
          | (apply aL_acall (hu); (case hg => (simp (disch := first | omega | (simp only [go_sem]; omega)) only [go_sem, get_miss, seval, reduceCtorEq, hbn, hne2, htk, decide_true, decide_false, not_false_eq_true])); (case hx => (simp (disch := first | omega | (simp only [go_sem]; omega)) only [go_sem, get_miss, seval, reduceCtorEq, hbn, hne2, htk, decide_true, decide_false, not_false_eq_true] <;> with_reducible rfl)); (case ha => (simp (disch := first | omega | (simp only [go_sem]; omega)) only [go_sem, get_miss, seval, reduceCtorEq, hbn, hne2, htk, decide_true, decide_false, not_false_eq_true] <;> with_reducible rfl)); (case he => (with_reducible rfl)); (case hp => (rfl)); (case hf => (simp only [go_sem] <;> with_reducible rfl)))
          | fail)
        all_goals try (first | exact True.intro | exact not_false | omega)
        all_goals try (simp (disch := first | omega | (simp only [go_sem]; omega)) only [go_sem, get_miss, seval, reduceCtorEq] <;> first | exact True.intro | omega)
        all_goals try (simp (disch := first | omega | (simp only [go_sem]; omega)) only [go_sem, get_miss, seval, reduceCtorEq])
        all_goals try simp
        all_goals first | omega | rfl
    · have hk' : k = L.length := by omega
      subst hk'
      rw [List.drop_length, jn_nil] at hjk ⊢
      rw [List.take_length] at hJ
      by_cases hre : rest = []
      · subst hre
        rw [f1 hJ rfl]
        clear f1 f2 f3
        simp only [List.take_length]
        repeat' (first
          | refine aC_seq ?_
          | refine aC_reg rfl ?_
          | refine aC_skip ?_
          | refine scopeQ_ret ?_
          | refine aC_exit ?_
          | refine aC_ret ?_
          | refine thenQ_normal ?_
          | refine thenQ_exit ?_
          | refine blockQ_hit ?_
          | refine aL_nil ?_
          | (apply aL_step; (· exact True.intro); (· simp (disch := first | omega | (simp only [go_sem]; omega)) only [go_sem, get_miss, seval, reduceCtorEq]); (· simp (disch := first | omega | (simp only [go_sem]; omega)) only [go_sem, get_miss, seval, reduceCtorEq] <;> with_reducible rfl); (· simp only [go_sem] <;> with_reducible rfl))
          | (refine aC_condF ?_ ?_; (· simp (disch := first | omega | (simp only [go_sem]; omega)) only [go_sem, get_miss, seval, reduceCtorEq]))
          | fail)
        all_goals try (first | exact True.intro | exact not_false | omega)
        all_goals try (simp (disch := first | omega | (simp only [go_sem]; omega)) only [go_sem, get_miss, seval, reduceCtorEq] <;> first | exact True.intro | omega)
        all_goals try (simp (disch := first | omega | (simp only [go_sem]; omega)) only [go_sem, get_miss, seval, reduceCtorEq])
        all_goals try simp
      · have hcut := a_cut rest (by omega)
        rw [cut_rest rest hr10] at hcut
        simp only at hcut
        have hbn : (rest == []) = false := by simp [hre]
        have hr' := f3 hJ hre
        subst hr'
        have hu : ∃ (op : Int) (xs : List Nat) (b : Bool), xs.length = 6 ∧ ∀ (S : St), S[0]? = some (.mpx TABLE 21) → ACall cx 49 [.str rest, .map 0] S (.tup [.agg (.int .i64 op :: wl xs), .bool b]) S := by
          by_cases hI : IsC rest
          · have hI' := callL_is hI
            exact ⟨_, _, true, hI'.2.1, fun S h => untext_lend (untext_is hI') (plain_tcv _ _ true) h⟩
          · obtain ⟨op, xs, hx6, hn⟩ := untext_no hrl (fun op xs h => hI ⟨op, xs, h⟩)
            exact ⟨op, xs, false, hx6, fun S h => untext_lend hn (plain_tcv _ _ false) h⟩
        obtain ⟨op, xs, b, hx6, hu⟩ := hu
        clear f1 f2 f3 hxl hjl
        rw [List.take_length] at htk ⊢
        generalize hW : L.map callL = W at *
        have hu := hu [.mpx TABLE 21, .grow W.length 7 32] rfl
        rw [htk] at hu ⊢
        cases b
        all_goals
        repeat' (first
          | refine aC_seq ?_
          | refine aC_reg rfl ?_
          | refine aC_block ?_
          | refine aC_skip ?_
          | refine scopeQ_ret ?_
          | refine aC_exit ?_
          | refine aC_ret ?_
          | refine thenQ_normal ?_
          | refine thenQ_ret ?_
          | refine thenQ_exit ?_
          | refine blockQ_hit ?_
          | refine blockQ_miss rfl ?_
          | refine aL_nil ?_
          | (apply aL_step; (· exact True.intro); (· simp (disch := first | omega | (simp only [go_sem]; omega)) only [go_sem, get_miss, seval, reduceCtorEq, hbn, hre, htk, decide_true, decide_false, not_false_eq_true]); (· simp (disch := first | omega | (simp only [go_sem]; omega)) only [go_sem, get_miss, seval, reduceCtorEq, hbn, hre, htk, decide_true, decide_false, not_false_eq_true] <;> with_reducible rfl); (· simp only [go_sem] <;> with_reducible rfl))
          | (refine aL_skip ?_ (by simp only [go_sem] <;> with_reducible rfl) ?_; (· simp (disch := first | omega | (simp only [go_sem]; omega)) only [go_sem, get_miss, seval, reduceCtorEq, hbn, hre, htk, decide_true, decide_false, not_false_eq_true]))
          | (refine aC_condT ?_ ?_; (· simp (disch := first | omega | (simp only [go_sem]; omega)) only [go_sem, get_miss, seval, reduceCtorEq, hbn, hre, htk, decide_true, decide_false, not_false_eq_true]))
          | (refine aC_condP (by simp (disch := first | omega | (simp only [go_sem]; omega)) only [go_sem, get_miss, seval, reduceCtorEq, hbn, hre, htk, decide_true, decide_false, not_false_eq_true] <;> with_reducible rfl) ?_ ?_ <;> (intro h; first | (exfalso; omega) | skip))
          | (apply aL_pure cxG (hcut); (case hg => (simp (disch := first | omega | (simp only [go_sem]; omega)) only [go_sem, get_miss, seval, reduceCtorEq, hbn, hre, htk, decide_true, decide_false, not_false_eq_true])); (case hx => (simp (disch := first | omega | (simp only [go_sem]; omega)) only [go_sem, get_miss, seval, reduceCtorEq, hbn, hre, htk, decide_true, decide_false, not_false_eq_true] <;> with_reducible rfl)); (case ha => (simp (disch := first | omega | (simp only [go_sem]; omega)) only [go_sem, get_miss, seval, reduceCtorEq, hbn, hre, htk, decide_true, decide_false, not_false_eq_true] <;> with_reducible rfl)); (case he => (simp only [go_sem] <;> with_reducible rfl)); (case hcl => (simp)); (case hf => (simp only [go_sem] <;> with_reducible rfl)))
          | (apply aL_acall (hu); (case hg => (simp (disch := first | omega | (simp only [go_sem]; omega)) only [go_sem, get_miss, seval, reduceCtorEq, hbn, hre, htk, decide_true, decide_false, not_false_eq_true])); (case hx => (simp (disch := first | omega | (simp only [go_sem]; omega)) only [go_sem, get_miss, seval, reduceCtorEq, hbn, hre, htk, decide_true, decide_false, not_false_eq_true] <;> with_reducible rfl)); (case ha => (simp (disch := first | omega | (simp only [go_sem]; omega)) only [go_sem, get_miss, seval, reduceCtorEq, hbn, hre, htk, decide_true, decide_false, not_false_eq_true] <;> with_reducible rfl)); (case he => (with_reducible rfl)); (case hp => (rfl)); (case hf => (simp only [go_sem] <;> with_reducible rfl)))
          | fail)
        all_goals try (first | exact True.intro | exact not_false | omega)
        all_goals try (simp (disch := first | omega | (simp only [go_sem]; omega)) only [go_sem, get_miss, seval, reduceCtorEq] <;> first | exact True.intro | omega)
        all_goals try (simp (disch := first | omega | (simp only [go_sem]; omega)) only [go_sem, get_miss, seval, reduceCtorEq])
        all_goals try simp
        all_goals first | omega | rfl
  all_goals first | trivial | omega
end
end Go.Am
end
section
set_option linter.unusedVariables false
set_option linter.unusedSimpArgs false
namespace Go.Am
open Go Go.Proofs
set_option linter.unusedSimpArgs false
set_option linter.unusedVariables false
set_option maxHeartbeats 8000000
set_option maxRecDepth 100000
section
attribute [local irreducible] aC aL thenQ blockQ scopeQ ALoop AWp

end
end Go.Am
end
