/- Which texts are calls; call.Untext; the document's cut, Op, Untext. -/
import Derived.Test.YtodiaabcaahnjaaGreatDoorL08
import Derived.Test.YtodiaabcaahnjaaGreatDoorP06
set_option linter.unusedVariables false
set_option linter.unusedSimpArgs false
section
namespace Go.Am
open Go Go.Proofs
set_option maxHeartbeats 8000000
set_option maxRecDepth 100000
section
attribute [local irreducible] aC aL thenQ blockQ scopeQ ALoop AWp
def IsCall (s : List UInt8) (op : Int) (xs : List Nat) : Prop := MayC op xs ∧ xs.length = 6 ∧ (∀ x ∈ xs, x < 18446744073709551616) ∧ ctx op xs = s
theorem parts_tail : ∀ (l : List Nat) (w : List UInt8), 32 ∉ w → parts (w ++ l.flatMap fun x => 32 :: Lib.decDigits x) [32] = w :: l.map Lib.decDigits
  | [], w, hw => by simpa using parts_miss 32 w hw
  | x :: l, w, hw => by
    have hd : (32 : UInt8) ∉ Lib.decDigits x := dec_no x 32 (.inl (by decide))
    rw [List.flatMap_cons, show w ++ (32 :: Lib.decDigits x ++ l.flatMap fun x => 32 :: Lib.decDigits x) = w ++ 32 :: (Lib.decDigits x ++ l.flatMap fun x => 32 :: Lib.decDigits x) by simp, parts_hit 32 w _ hw, parts_tail l _ hd, List.map_cons]
theorem may_pad {op : Int} {xs : List Nat} (h : MayC op xs) (hx : xs.length = 6) : xs.take (car op) ++ List.replicate (6 - car op) 0 = xs := by
  have h2 : xs.drop (car op) = List.replicate (6 - car op) 0 := by
    refine List.eq_replicate_iff.2 ⟨by simp; omega, h.2⟩
  rw [← h2, List.take_append_drop]
theorem call_parts {s : List UInt8} {op : Int} {xs : List Nat} (h : IsCall s op xs) : parts s [32] = cnm op :: (xs.take (car op)).map Lib.decDigits := by
  obtain ⟨hm, hx, hw, rfl⟩ := h
  exact parts_tail _ _ (cnm_in hm.1).2.2.1
theorem call_unique {s : List UInt8} {op op' : Int} {xs xs' : List Nat} (h : IsCall s op xs) (h' : IsCall s op' xs') : op = op' ∧ xs = xs' := by
  have e := (call_parts h).symm.trans (call_parts h')
  have ho : op = op' := cnm_inj h.1.1 h'.1.1 (List.cons.inj e).1
  subst ho
  refine ⟨rfl, ?_⟩
  have e2 := (List.cons.inj e).2
  have inj : ∀ (a b : List Nat), (∀ x ∈ a, x < 18446744073709551616) → (∀ x ∈ b, x < 18446744073709551616) → a.map Lib.decDigits = b.map Lib.decDigits → a = b := by
    intro a
    induction a with
    | nil => intro b _ _ h; cases b with | nil => rfl | cons => cases h
    | cons x a ih =>
      intro b ha hb h
      cases b with
      | nil => cases h
      | cons y b =>
        rw [List.map_cons, List.map_cons] at h
        have h1 := puP_dec x (ha x (List.mem_cons_self ..))
        have h2 := puP_dec y (hb y (List.mem_cons_self ..))
        rw [(List.cons.inj h).1, h2] at h1
        injection h1 with h1
        rw [h1, ih b (fun z hz => ha z (List.mem_cons_of_mem _ hz)) (fun z hz => hb z (List.mem_cons_of_mem _ hz)) (List.cons.inj h).2]
  have e3 := inj _ _ (fun x hx => h.2.2.1 x (List.mem_of_mem_take hx)) (fun x hx => h'.2.2.1 x (List.mem_of_mem_take hx)) e2
  rw [← may_pad h.1 h.2.1, ← may_pad h'.1 h'.2.1, e3]
theorem argsK_dec {op : Int} {xs : List Nat} (hm : MayC op xs) (hx : xs.length = 6) (hw : ∀ x ∈ xs, x < 18446744073709551616) : argsK ((xs.take (car op)).map Lib.decDigits) (car op) = xs := by
  have hc := car_le op
  have h1 : prs ((xs.take (car op)).map Lib.decDigits) = xs.take (car op) := by
    unfold prs
    rw [List.map_map]
    have : ∀ x ∈ xs.take (car op), ((fun x => (puP x).getD 0) ∘ Lib.decDigits) x = id x := fun x hx => by
      simp only [Function.comp_apply]
      rw [puP_dec x (hw x (List.mem_of_mem_take hx))]
      rfl
    rw [List.map_congr_left this, List.map_id]
  unfold argsK
  rw [h1, List.take_of_length_le (by rw [List.length_take]; omega)]
  exact may_pad hm hx
theorem untext_is {s : List UInt8} {op : Int} {xs : List Nat} (h : IsCall s op xs) :
    ACall cx 68 [.str s, .map 0] [.mpx TABLE 21] (.tup [.agg (.int .i64 op :: wl xs), .bool true]) [.mpx TABLE 21] := by
  have hp := call_parts h
  obtain ⟨hm, hx, hw, hs⟩ := h
  have hsl : s.length ≤ 115 := by rw [← hs]; exact ctx_len hw
  have hc := car_le op
  have hlen : ((xs.take (car op)).map Lib.decDigits).length = car op := by rw [List.length_map, List.length_take]; omega
  have hz := parts_sizes s [32]
  rw [hp] at hz
  have ha := argsK_dec hm hx hw
  have := untext_hit s (by omega) op hm.1 _ hp hlen (fun x hx => Nat.le_trans (hz x (List.mem_cons_of_mem _ hx)) (by omega)) (fun k hk => by
    rw [List.getElem_map]
    exact ⟨_, puP_dec _ (hw _ (List.mem_of_mem_take (List.getElem_mem _)))⟩) true (by rw [hlen, ha, hs]; simp)
  rw [hlen, ha] at this
  exact this
theorem untext_no {s : List UInt8} (hs : s.length ≤ 1048576) (h : ∀ op xs, ¬ IsCall s op xs) :
    ∃ (op : Int) (xs : List Nat), xs.length = 6 ∧ ACall cx 68 [.str s, .map 0] [.mpx TABLE 21] (.tup [.agg (.int .i64 op :: wl xs), .bool false]) [.mpx TABLE 21] := by
  obtain ⟨w0, wr, hw, hl⟩ := parts_len s [32] (by decide)
  have hz := parts_sizes s [32]
  rw [hw] at hz
  by_cases hh : ∃ op : Int, (1 ≤ op ∧ op ≤ 21) ∧ cnm op = w0 ∧ wr.length = car op
  · obtain ⟨op, ho, rfl, hwl⟩ := hh
    have hc := car_le op
    have hwp : ∀ x ∈ wr, x.length ≤ 1048576 := fun x hx => Nat.le_trans (hz x (List.mem_cons_of_mem _ hx)) hs
    by_cases hall : ∀ k (h : k < wr.length), ∃ v, puP wr[k] = some v
    · refine ⟨op, argsK wr wr.length, argsK_len wr wr.length (Nat.le_refl _) (by omega), untext_hit s hs op ho wr hw hwl hwp hall false (decide_eq_false ?_).symm⟩
      intro e
      refine h op (argsK wr wr.length) ⟨⟨ho, fun x hx => ?_⟩, argsK_len wr wr.length (Nat.le_refl _) (by omega), argsK_lt wr wr.length, e⟩
      unfold argsK at hx
      rw [List.drop_append, List.drop_eq_nil_of_le (by rw [List.length_take]; omega), List.nil_append] at hx
      exact (List.mem_replicate.1 (List.mem_of_mem_drop hx)).2
    · have : ∃ j, ∃ h : j < wr.length, puP wr[j] = none ∧ ∀ k, k < j → ∃ v, puP (wr.getD k []) = some v := by
        clear hz hw hwl hwp hl
        induction wr with
        | nil => exact absurd (fun k hk => by simp at hk) hall
        | cons y wr ih =>
          cases hy : puP y with
          | none => exact ⟨0, by simp, by simpa using hy, fun k hk => by omega⟩
          | some v =>
            obtain ⟨j, hj, h1, h2⟩ := ih (fun g => hall (fun k hk => by
              cases k with
              | zero => exact ⟨v, by simpa using hy⟩
              | succ k => simpa using g k (by simpa using hk)))
            refine ⟨j + 1, by simpa using hj, by simpa using h1, fun k hk => ?_⟩
            cases k with
            | zero => exact ⟨v, by simpa using hy⟩
            | succ k => simpa using h2 k (by omega)
      obtain ⟨j, hj, h1, h2⟩ := this
      exact ⟨0, [0, 0, 0, 0, 0, 0], rfl, untext_bad s hs op ho wr hw hwl hwp j hj h1 h2⟩
  · exact ⟨0, [0, 0, 0, 0, 0, 0], rfl, untext_miss s hs w0 wr hw (by omega) fun op ho k => hh ⟨op, ho, k.1, k.2⟩⟩
theorem plain_tcv (op : Int) (xs : List Nat) (b : Bool) : plainV (.tup [.agg (.int .i64 op :: wl xs), .bool b]) = true := by
  have := plain_cv op xs
  simp only [plainV, plainVs] at this ⊢
  simp [this]
theorem untext_lend {s : List UInt8} {r : AVal} (h : ACall cx 68 [.str s, .map 0] [.mpx TABLE 21] r [.mpx TABLE 21]) (hr : plainV r = true) {S : St} {i : Nat} (hS : S[i]? = some (.mpx TABLE 21)) :
    ACall cx 68 [.str s, .map i] S r S :=
  ACall.lendX cxG h (by kernel_rfl) hr hS rfl fun j h1 h0 => by
    match j, h1 with
    | 0, _ => exact .inl ⟨rfl, rfl⟩
    | 1, _ => exact .inr ⟨rfl, rfl⟩
theorem call_Untext (s : List UInt8) (hs : s.length ≤ 1048576) (r : AVal) (hr : (∃ op xs, IsCall s op xs ∧ r = .tup [.agg (.int .i64 op :: wl xs), .int .i64 0]) ∨
    ((∀ op xs, ¬ IsCall s op xs) ∧ r = .tup [.agg [.int .i64 0, .int .u64 0, .int .u64 0, .int .u64 0, .int .u64 0, .int .u64 0, .int .u64 0], .int .i64 4])) : APure cx 30 [.str s] r := by
  rcases hr with ⟨op, xs, h, rfl⟩ | ⟨h, rfl⟩
  case' inl =>
    have hx := h.2.1
    have hc := untext_lend (S := [.cells [.int .i64 0, .int .u64 0, .int .u64 0, .int .u64 0, .int .u64 0, .int .u64 0, .int .u64 0] 28] ++ [.mpx TABLE 21]) (i := 1) (untext_is h) (plain_tcv op xs true) rfl
  case' inr =>
    obtain ⟨op, xs, hx, h2⟩ := untext_no hs h
    have hc := untext_lend (S := [.cells [.int .i64 0, .int .u64 0, .int .u64 0, .int .u64 0, .int .u64 0, .int .u64 0, .int .u64 0] 28] ++ [.mpx TABLE 21]) (i := 1) h2 (plain_tcv op xs false) rfl
    clear h2
  all_goals
  clear h
  refine pure_fn cxOk Tryz.func30 (by kernel_rfl) (fun _ => false) (fun _ => none) (by kernel_rfl) (Nat.le_of_ble_eq_true (by kernel_rfl)) ?_
  dsimp only [LB, Tryz.f30, lite, nextOf, Option.isNone, Bool.not_true, Bool.not_false, Bool.and_true, Bool.true_and, Bool.false_and, Bool.and_self, Bool.false_eq_true, if_false, if_true, ↓reduceIte, liteO, List.map, Option.map, frame0, List.zipIdx, Nat.reduceAdd]
  try simp only [List.getElem?_toArray, List.getElem?_cons_succ, List.getElem?_cons_zero, Option.bind_some]
  repeat' (first | refine aC_seq ?_ | refine aC_reg rfl ?_ | refine aC_skip ?_ | refine aC_ret ?_ | refine thenQ_normal ?_ | refine thenQ_ret ?_ | refine aL_nil ?_ | (apply aL_step; (· exact True.intro); (· simp (disch := first | omega | (simp only [go_sem]; omega)) only [go_sem, get_miss, seval, reduceCtorEq]); (· simp (disch := first | omega | (simp only [go_sem]; omega)) only [go_sem, get_miss, seval, reduceCtorEq] <;> with_reducible rfl); (· simp only [go_sem] <;> with_reducible rfl)) | (refine aC_condT ?_ ?_; (· simp (disch := first | omega | (simp only [go_sem]; omega)) only [go_sem, get_miss, seval, reduceCtorEq])) | (refine aC_condF ?_ ?_; (· simp (disch := first | omega | (simp only [go_sem]; omega)) only [go_sem, get_miss, seval, reduceCtorEq])) | (apply aL_acall (call_table _); (case hg => (simp (disch := first | omega | (simp only [go_sem]; omega)) only [go_sem, get_miss, seval, reduceCtorEq])); (case hx => (simp (disch := first | omega | (simp only [go_sem]; omega)) only [go_sem, get_miss, seval, reduceCtorEq] <;> with_reducible rfl)); (case ha => (simp (disch := first | omega | (simp only [go_sem]; omega)) only [go_sem, get_miss, seval, reduceCtorEq] <;> with_reducible rfl)); (case he => (with_reducible rfl)); (case hp => (rfl)); (case hf => (simp only [go_sem] <;> with_reducible rfl))) | (apply aL_acall (hc); (case hg => (simp (disch := first | omega | (simp only [go_sem]; omega)) only [go_sem, get_miss, seval, reduceCtorEq])); (case hx => (simp (disch := first | omega | (simp only [go_sem]; omega)) only [go_sem, get_miss, seval, reduceCtorEq] <;> with_reducible rfl)); (case ha => (simp (disch := first | omega | (simp only [go_sem]; omega)) only [go_sem, get_miss, seval, reduceCtorEq] <;> with_reducible rfl)); (case he => (with_reducible rfl)); (case hp => (rfl)); (case hf => (simp only [go_sem] <;> with_reducible rfl))) | fail)
  all_goals try (first | exact True.intro | exact not_false | omega)
  all_goals try (simp (disch := first | omega | (simp only [go_sem]; omega)) only [go_sem, get_miss, seval, reduceCtorEq] <;> first | exact True.intro | omega)
  all_goals (clear hc)
  all_goals try (simp (disch := first | omega | (simp only [go_sem]; omega)) only [go_sem, get_miss, seval, reduceCtorEq])
  all_goals try simp
  all_goals omega
end
end Go.Am
end
section
namespace Go.Am
open Go Go.Proofs
set_option maxHeartbeats 8000000
set_option maxRecDepth 100000
section
attribute [local irreducible] aC aL thenQ blockQ scopeQ ALoop AWp
theorem ref_cut0 (s : List UInt8) (c : UInt8) (hs : s.length ≤ 1048576) : APure cx 76 [.str s, .int .u8 (c.toNat : Nat)] (.sl 1 false ((cutA c [] s).map .str) .any) := by
  refine pure_fn cxOk Tryz.func76 (by kernel_rfl) (fun _ => false) (fun _ => none) (by kernel_rfl) (Nat.le_of_ble_eq_true (by kernel_rfl)) ?_
  dsimp only [LB, Tryz.f76, lite, nextOf, Option.isNone, Bool.not_true, Bool.not_false, Bool.and_true, Bool.true_and, Bool.false_and, Bool.and_self, Bool.false_eq_true, if_false, if_true, ↓reduceIte, liteO, List.map, Option.map, frame0, List.zipIdx, Nat.reduceAdd]
  try simp only [List.getElem?_toArray, List.getElem?_cons_succ, List.getElem?_cons_zero, Option.bind_some]
  repeat' (first | refine aC_seq ?_ | refine aC_reg rfl ?_ | refine aC_block ?_ | refine aC_loop ?_ | refine thenQ_normal ?_ | refine aL_nil ?_ | (apply aL_step; (· exact True.intro); (· simp (disch := first | omega | (simp only [go_sem]; omega)) only [go_sem, get_miss, seval, reduceCtorEq]); (· simp (disch := first | omega | (simp only [go_sem]; omega)) only [go_sem, get_miss, seval, reduceCtorEq] <;> with_reducible rfl); (· simp only [go_sem] <;> with_reducible rfl)) | fail)
  · refine loop_rule (cxOk.wp _ _) (σ := Nat × Nat × List (List UInt8)) (fun x => [(5, .sl 1 x.2.2.isEmpty (x.2.2.map .str) (.grow 0)), (6, .int .i64 x.2.1), (7, .int .i64 x.1), (1, .int .u8 (c.toNat : Nat)), (0, .str s)])
      (fun x => [.grow x.2.2.length 1 9]) (fun x => s.length + 1 - x.1) (fun x => x.2.2.length ≤ x.1 ∧ ((x.1 ≤ s.length ∧ x.2.1 ≤ x.1 ∧ cutA c [] s = x.2.2 ++ cutA c ((s.take x.1).drop x.2.1) (s.drop x.1)) ∨ (x.1 = s.length + 1 ∧ cutA c [] s = x.2.2)))
      (0, 0, []) (GStep.nil 5 1 9 rfl) ⟨⟨Nat.le_refl _, .inl ⟨Nat.zero_le _, Nat.le_refl _, by simp⟩⟩, Sub.of_all (by simp [Fr.get, frame0]), by simp⟩ ?_
    rintro ⟨i, at_, L⟩ ⟨hLi, hJ⟩
    simp only at hLi hJ ⊢
    rcases hJ with ⟨h1, h2, h3⟩ | ⟨h1, h3⟩
    · by_cases hlt : i < s.length
      · have hd : s.drop i = s[i] :: s.drop (i + 1) := List.drop_eq_getElem_cons hlt
        have hg : s.getD i 0 = s[i] := by simp [List.getD, hlt]
        have ht : (s.take (i + 1)).drop at_ = (s.take i).drop at_ ++ [s[i]] := by
          rw [List.take_succ_eq_append_getElem hlt, List.drop_append_of_le_length (by simp; omega)]
        rw [hd] at h3
        simp only [cutA] at h3
        by_cases h32 : s[i] = c
        · rw [if_pos h32] at h3
          repeat' (first | refine aC_seq ?_ | refine aC_reg rfl ?_ | refine aC_block ?_ | refine aC_skip ?_ | refine thenQ_normal ?_ | refine blockQ_normal ?_ | refine aL_nil ?_ | (apply aL_step; (· exact True.intro); (· simp (disch := first | omega | (simp only [go_sem]; omega)) only [go_sem, get_miss, seval, reduceCtorEq, hg, h32, eq_self_iff_true, decide_true]); (· simp (disch := first | omega | (simp only [go_sem]; omega)) only [go_sem, get_miss, seval, reduceCtorEq, hg, h32, eq_self_iff_true, decide_true] <;> with_reducible rfl); (· simp only [go_sem] <;> with_reducible rfl)) | (apply aL_guardN; (· simp (disch := first | omega | (simp only [go_sem]; omega)) only [go_sem, get_miss, seval, reduceCtorEq, hg, h32, eq_self_iff_true, decide_true] <;> with_reducible rfl); all_goals (intro h; first | (exfalso; omega) | (simp only [h, decide_true, decide_false, not_true, not_false_iff]))) | (refine aC_condT ?_ ?_; (· simp (disch := first | omega | (simp only [go_sem]; omega)) only [go_sem, get_miss, seval, reduceCtorEq, hg, h32, eq_self_iff_true, decide_true])) | (refine aC_condP (by simp (disch := first | omega | (simp only [go_sem]; omega)) only [go_sem, get_miss, seval, reduceCtorEq, hg, h32, eq_self_iff_true, decide_true] <;> with_reducible rfl) ?_ ?_ <;> (intro h; first | (exfalso; omega) | skip)) | fail)
          all_goals try (first | exact True.intro | exact not_false | omega)
          all_goals try (simp (disch := first | omega | (simp only [go_sem]; omega)) only [go_sem, get_miss, seval, reduceCtorEq] <;> first | exact True.intro | omega)
          all_goals exact ⟨(i + 1, i + 1, L ++ [(s.take i).drop at_]), ⟨by simp; omega, .inl ⟨by omega, Nat.le_refl _, by rw [h3]; simp⟩⟩, Sub.of_all (by simp [Fr.get]), by simp, by simp; omega⟩
        · rw [if_neg h32, ← ht] at h3
          have hne : ¬ ((s[i].toNat : Int) = (c.toNat : Int)) := fun e => h32 (UInt8.toNat_inj.1 (by omega))
          repeat' (first | refine aC_seq ?_ | refine aC_reg rfl ?_ | refine aC_block ?_ | refine aC_skip ?_ | refine thenQ_normal ?_ | refine blockQ_normal ?_ | refine aL_nil ?_ | (apply aL_step; (· exact True.intro); (· simp (disch := first | omega | (simp only [go_sem]; omega)) only [go_sem, get_miss, seval, reduceCtorEq, hg, hne, decide_false]); (· simp (disch := first | omega | (simp only [go_sem]; omega)) only [go_sem, get_miss, seval, reduceCtorEq, hg, hne, decide_false] <;> with_reducible rfl); (· simp only [go_sem] <;> with_reducible rfl)) | (apply aL_guardN; (· simp (disch := first | omega | (simp only [go_sem]; omega)) only [go_sem, get_miss, seval, reduceCtorEq, hg, hne, decide_false] <;> with_reducible rfl); all_goals (intro h; first | (exfalso; omega) | (simp only [h, decide_true, decide_false, not_true, not_false_iff]))) | (refine aC_condF ?_ ?_; (· simp (disch := first | omega | (simp only [go_sem]; omega)) only [go_sem, get_miss, seval, reduceCtorEq, hg, hne, decide_false])) | (refine aC_condP (by simp (disch := first | omega | (simp only [go_sem]; omega)) only [go_sem, get_miss, seval, reduceCtorEq, hg, hne, decide_false] <;> with_reducible rfl) ?_ ?_ <;> (intro h; first | (exfalso; omega) | skip)) | fail)
          all_goals try (first | exact True.intro | exact not_false | omega)
          all_goals try (simp (disch := first | omega | (simp only [go_sem]; omega)) only [go_sem, get_miss, seval, reduceCtorEq] <;> first | exact True.intro | omega)
          all_goals exact ⟨(i + 1, at_, L), ⟨by simp; omega, .inl ⟨by omega, by simp; omega, h3⟩⟩, Sub.of_all (by simp [Fr.get]), rfl, by simp; omega⟩
      · have hi : i = s.length := by omega
        subst hi
        repeat' (first | refine aC_seq ?_ | refine aC_reg rfl ?_ | refine aC_block ?_ | refine aC_skip ?_ | refine thenQ_normal ?_ | refine blockQ_normal ?_ | refine aL_nil ?_ | (apply aL_step; (· exact True.intro); (· simp (disch := first | omega | (simp only [go_sem]; omega)) only [go_sem, get_miss, seval, reduceCtorEq]); (· simp (disch := first | omega | (simp only [go_sem]; omega)) only [go_sem, get_miss, seval, reduceCtorEq] <;> with_reducible rfl); (· simp only [go_sem] <;> with_reducible rfl)) | (refine aL_skip ?_ (by simp only [go_sem] <;> with_reducible rfl) ?_; (· simp (disch := first | omega | (simp only [go_sem]; omega)) only [go_sem, get_miss, seval, reduceCtorEq])) | (refine aC_condT ?_ ?_; (· simp (disch := first | omega | (simp only [go_sem]; omega)) only [go_sem, get_miss, seval, reduceCtorEq])) | (refine aC_condP (by simp (disch := first | omega | (simp only [go_sem]; omega)) only [go_sem, get_miss, seval, reduceCtorEq] <;> with_reducible rfl) ?_ ?_ <;> (intro h; first | (exfalso; omega) | skip)) | fail)
        all_goals try (first | exact True.intro | exact not_false | omega)
        all_goals try (simp (disch := first | omega | (simp only [go_sem]; omega)) only [go_sem, get_miss, seval, reduceCtorEq] <;> first | exact True.intro | omega)
        all_goals exact ⟨(s.length + 1, s.length + 1, L ++ [s.drop at_]), ⟨by simp; omega, .inr ⟨rfl, by rw [h3]; simp [cutA]⟩⟩, Sub.of_all (by simp [Fr.get]), by simp, by simp⟩
    · subst h1
      have hne : L.isEmpty = false := by
        rw [← h3]
        cases hq : cutA c [] s with
        | nil => exact absurd hq (cutA_ne c s [])
        | cons a l => rfl
      subst h3
      repeat' (first | refine aC_seq ?_ | refine aC_reg rfl ?_ | refine aC_exit ?_ | refine aC_ret ?_ | refine thenQ_normal ?_ | refine thenQ_exit ?_ | refine blockQ_hit ?_ | refine aL_nil ?_ | (apply aL_step; (· exact True.intro); (· simp (disch := first | omega | (simp only [go_sem]; omega)) only [go_sem, get_miss, seval, reduceCtorEq]); (· simp (disch := first | omega | (simp only [go_sem]; omega)) only [go_sem, get_miss, seval, reduceCtorEq] <;> with_reducible rfl); (· simp only [go_sem] <;> with_reducible rfl)) | (refine aC_condP (by simp (disch := first | omega | (simp only [go_sem]; omega)) only [go_sem, get_miss, seval, reduceCtorEq] <;> with_reducible rfl) ?_ ?_ <;> (intro h; first | (exfalso; omega) | skip)) | fail)
      all_goals try (first | exact True.intro | exact not_false | omega)
      all_goals try (simp (disch := first | omega | (simp only [go_sem]; omega)) only [go_sem, get_miss, seval, reduceCtorEq] <;> first | exact True.intro | omega)
      all_goals try (simp (disch := first | omega | (simp only [go_sem]; omega)) only [go_sem, get_miss, seval, reduceCtorEq, hne])
      all_goals try simp
  all_goals trivial
theorem ref_cut (s : List UInt8) (c : UInt8) (hs : s.length ≤ 1048576) : APure cx 76 [.str s, .int .u8 (c.toNat : Nat)] (.sl 1 false ((parts s [c]).map .str) .any) := by
  rw [← cutA_parts c _ s (Nat.le_refl _)]
  exact ref_cut0 s c hs
end
end Go.Am
end
section
namespace Go.Am
open Go Go.Proofs
set_option maxHeartbeats 8000000
set_option maxRecDepth 100000
section
attribute [local irreducible] aC aL thenQ blockQ scopeQ ALoop AWp
theorem ref_Op (n : List UInt8) (r : Int) (hr : ((1 ≤ r ∧ r ≤ 21) ∧ cnm r = n) ∨ (r = 0 ∧ ∀ op : Int, 1 ≤ op ∧ op ≤ 21 → cnm op ≠ n)) : APure cx 77 [.str n] (.int .i64 r) := by
  have hn := ref_names
  have hl := names_len
  have hg : ∀ k : Nat, 1 ≤ k → k ≤ 21 → (AVal.str [] :: OPS.map fun p => AVal.str p.1).getD k .any = .str (cnm k) := fun k h1 h2 => by
    have := names_get (op := (k : Int)) ⟨by omega, by omega⟩
    rw [Int.toNat_natCast] at this
    exact this
  have hyes : ∀ k : Nat, 1 ≤ k → k ≤ 21 → cnm k = n → r = (k : Int) := fun k h1 h2 h3 => by
    rcases hr with ⟨g1, g2⟩ | ⟨_, g⟩
    · exact cnm_inj g1 ⟨by omega, by omega⟩ (g2.trans h3.symm)
    · exact absurd h3 (g k ⟨by omega, by omega⟩)
  have hno : (∀ k : Nat, 1 ≤ k → k < 22 → cnm k ≠ n) → r = 0 := fun h => by
    rcases hr with ⟨g1, g2⟩ | ⟨g, _⟩
    · exact absurd g2 (by
        have := h r.toNat (by omega) (by omega)
        rwa [Int.toNat_of_nonneg (by omega)] at this)
    · exact g
  clear hr
  generalize (AVal.str [] :: OPS.map fun p => AVal.str p.1) = L at *
  refine pure_fn cxOk Tryz.func77 (by kernel_rfl) (fun _ => false) (fun _ => none) (by kernel_rfl) (Nat.le_of_ble_eq_true (by kernel_rfl)) ?_
  dsimp only [LB, Tryz.f77, lite, nextOf, Option.isNone, Bool.not_true, Bool.not_false, Bool.and_true, Bool.true_and, Bool.false_and, Bool.and_self, Bool.false_eq_true, if_false, if_true, ↓reduceIte, liteO, List.map, Option.map, frame0, List.zipIdx, Nat.reduceAdd]
  try simp only [List.getElem?_toArray, List.getElem?_cons_succ, List.getElem?_cons_zero, Option.bind_some]
  repeat' (first | refine aC_seq ?_ | refine aC_reg rfl ?_ | refine aC_block ?_ | refine aC_loop ?_ | refine thenQ_normal ?_ | refine aL_nil ?_ | (apply aL_step; (· exact True.intro); (· simp (disch := first | omega | (simp only [go_sem]; omega)) only [go_sem, get_miss, seval, reduceCtorEq]); (· simp (disch := first | omega | (simp only [go_sem]; omega)) only [go_sem, get_miss, seval, reduceCtorEq] <;> with_reducible rfl); (· simp only [go_sem] <;> with_reducible rfl)) | (apply aL_pure cxG (hn); (case hg => (simp (disch := first | omega | (simp only [go_sem]; omega)) only [go_sem, get_miss, seval, reduceCtorEq])); (case hx => (simp (disch := first | omega | (simp only [go_sem]; omega)) only [go_sem, get_miss, seval, reduceCtorEq] <;> with_reducible rfl)); (case ha => (simp (disch := first | omega | (simp only [go_sem]; omega)) only [go_sem, get_miss, seval, reduceCtorEq] <;> with_reducible rfl)); (case he => (simp only [go_sem] <;> with_reducible rfl)); (case hcl => (simp)); (case hf => (simp only [go_sem] <;> with_reducible rfl))) | fail)
  · clear hn
    refine loop_rule (cxOk.wp _ _) (σ := Nat) (fun k => [(4, .int .i64 k), (3, .sl 1 false L .any), (0, .str n)])
      (fun _ => []) (fun k => 22 - k) (fun k => 1 ≤ k ∧ k ≤ 22 ∧ ∀ j : Nat, 1 ≤ j → j < k → cnm j ≠ n) 1 (GStep.refl _ _) ⟨⟨Nat.le_refl _, by decide, fun _ _ h => by omega⟩, Sub.of_all (by simp [Fr.get, frame0]), rfl⟩ ?_
    rintro k ⟨h1, h2, hJ⟩
    by_cases hlt : k < 22
    · have hgk := hg k h1 (by omega)
      by_cases he : cnm (k : Int) = n
      · rw [hyes k h1 (by omega) he]
        have hb : (cnm (k : Int) == n) = true := by simp [he]
        clear hyes hno hg hJ
        generalize cnm (k : Int) = W at *
        repeat' (first | refine aC_seq ?_ | refine aC_reg rfl ?_ | refine aC_block ?_ | refine aC_skip ?_ | refine aC_ret ?_ | refine thenQ_normal ?_ | refine thenQ_ret ?_ | refine blockQ_ret ?_ | refine aL_nil ?_ | (apply aL_step; (· exact True.intro); (· simp (disch := first | omega | (simp only [go_sem]; omega)) only [go_sem, get_miss, seval, reduceCtorEq, hgk, hl, hb, he, eq_self_iff_true, decide_true]); (· simp (disch := first | omega | (simp only [go_sem]; omega)) only [go_sem, get_miss, seval, reduceCtorEq, hgk, hl, hb, he, eq_self_iff_true, decide_true] <;> with_reducible rfl); (· simp only [go_sem] <;> with_reducible rfl)) | (refine aC_condT ?_ ?_; (· simp (disch := first | omega | (simp only [go_sem]; omega)) only [go_sem, get_miss, seval, reduceCtorEq, hgk, hl, hb, he, eq_self_iff_true, decide_true])) | (refine aC_condP (by simp (disch := first | omega | (simp only [go_sem]; omega)) only [go_sem, get_miss, seval, reduceCtorEq, hgk, hl, hb, he, eq_self_iff_true, decide_true] <;> with_reducible rfl) ?_ ?_ <;> (intro h; first | (exfalso; omega) | skip)) | fail)
        all_goals try (first | exact True.intro | exact not_false | omega)
        all_goals try (simp (disch := first | omega | (simp only [go_sem]; omega)) only [go_sem, get_miss, seval, reduceCtorEq] <;> first | exact True.intro | omega)
        all_goals try (simp (disch := first | omega | (simp only [go_sem]; omega)) only [go_sem, get_miss, seval, reduceCtorEq])
        all_goals try simp
      · have hb : (cnm (k : Int) == n) = false := by simp [he]
        have hJ' : ∀ j : Nat, 1 ≤ j → j < k + 1 → cnm j ≠ n := fun j g1 g2 => by
          by_cases e : j = k
          · rw [e]; exact he
          · exact hJ j g1 (by omega)
        clear hyes hno hg hJ
        generalize cnm (k : Int) = W at *
        repeat' (first | refine aC_seq ?_ | refine aC_reg rfl ?_ | refine aC_block ?_ | refine aC_skip ?_ | refine thenQ_normal ?_ | refine blockQ_normal ?_ | refine aL_nil ?_ | (apply aL_step; (· exact True.intro); (· simp (disch := first | omega | (simp only [go_sem]; omega)) only [go_sem, get_miss, seval, reduceCtorEq, hgk, hl, hb, he, decide_false]); (· simp (disch := first | omega | (simp only [go_sem]; omega)) only [go_sem, get_miss, seval, reduceCtorEq, hgk, hl, hb, he, decide_false] <;> with_reducible rfl); (· simp only [go_sem] <;> with_reducible rfl)) | (refine aC_condF ?_ ?_; (· simp (disch := first | omega | (simp only [go_sem]; omega)) only [go_sem, get_miss, seval, reduceCtorEq, hgk, hl, hb, he, decide_false])) | (refine aC_condP (by simp (disch := first | omega | (simp only [go_sem]; omega)) only [go_sem, get_miss, seval, reduceCtorEq, hgk, hl, hb, he, decide_false] <;> with_reducible rfl) ?_ ?_ <;> (intro h; first | (exfalso; omega) | skip)) | fail)
        all_goals try (first | exact True.intro | exact not_false | omega)
        all_goals try (simp (disch := first | omega | (simp only [go_sem]; omega)) only [go_sem, get_miss, seval, reduceCtorEq] <;> first | exact True.intro | omega)
        all_goals exact ⟨k + 1, ⟨by omega, by omega, hJ'⟩, Sub.of_all (by simp [Fr.get]), rfl, by omega⟩
    · have hk' : k = 22 := by omega
      subst hk'
      rw [hno hJ]
      clear hyes hno hg hJ
      repeat' (first | refine aC_seq ?_ | refine aC_reg rfl ?_ | refine aC_exit ?_ | refine aC_ret ?_ | refine thenQ_normal ?_ | refine thenQ_exit ?_ | refine blockQ_hit ?_ | refine aL_nil ?_ | (apply aL_step; (· exact True.intro); (· simp (disch := first | omega | (simp only [go_sem]; omega)) only [go_sem, get_miss, seval, reduceCtorEq, hl]); (· simp (disch := first | omega | (simp only [go_sem]; omega)) only [go_sem, get_miss, seval, reduceCtorEq, hl] <;> with_reducible rfl); (· simp only [go_sem] <;> with_reducible rfl)) | (refine aC_condF ?_ ?_; (· simp (disch := first | omega | (simp only [go_sem]; omega)) only [go_sem, get_miss, seval, reduceCtorEq, hl])) | fail)
      all_goals try (first | exact True.intro | exact not_false | omega)
      all_goals try (simp (disch := first | omega | (simp only [go_sem]; omega)) only [go_sem, get_miss, seval, reduceCtorEq] <;> first | exact True.intro | omega)
      all_goals try (simp (disch := first | omega | (simp only [go_sem]; omega)) only [go_sem, get_miss, seval, reduceCtorEq])
      all_goals try simp
  all_goals trivial
theorem rnum_nil {y : List UInt8} : rnum (y.take 0) = 0 := rfl
def rargs (wr : List (List UInt8)) (k : Nat) : List Nat := (wr.map rnum).take k ++ List.replicate (6 - k) 0
theorem rargs_len (wr : List (List UInt8)) (k : Nat) (h : k ≤ wr.length) (h6 : k ≤ 6) : (rargs wr k).length = 6 := by simp [rargs]; omega
theorem rargs_succ (wr : List (List UInt8)) (k : Nat) (h : k < wr.length) (h6 : k < 6) : (rargs wr k).set k (rnum wr[k]) = rargs wr (k + 1) := by
  have hl : k < (wr.map rnum).length := by simp; exact h
  unfold rargs
  rw [List.set_append_right _ _ (by rw [List.length_take]; omega), List.take_succ_eq_append_getElem hl]
  obtain ⟨m, hm⟩ : ∃ m, 6 - k = m + 1 := ⟨5 - k, by omega⟩
  rw [hm, List.replicate_succ, show 6 - (k + 1) = m by omega]
  have : k - ((wr.map rnum).take k).length = 0 := by simp; omega
  rw [this]
  simp
theorem rargs_at (wr : List (List UInt8)) (k : Nat) (h : k ≤ wr.length) (h6 : k < 6) : (rargs wr k).getD k 0 = 0 := by
  unfold rargs
  rw [List.getD_eq_getElem?_getD, List.getElem?_append_right (by rw [List.length_take]; omega)]
  cases he : (List.replicate (6 - k) 0)[k - ((wr.map rnum).take k).length]? with
  | none => rfl
  | some v => exact (List.mem_replicate.1 (List.mem_of_getElem? he)).2
theorem rargs_lt (wr : List (List UInt8)) (k : Nat) : ∀ x ∈ rargs wr k, x < 18446744073709551616 := by
  intro x hx
  unfold rargs at hx
  rcases List.mem_append.1 hx with h | h
  · obtain ⟨y, _, rfl⟩ := List.mem_map.1 (List.mem_of_mem_take h)
    exact rnum_lt y
  · rw [(List.mem_replicate.1 h).2]; decide
theorem rargs_dec {op : Int} {xs : List Nat} (hm : MayC op xs) (hx : xs.length = 6) (hw : ∀ x ∈ xs, x < 18446744073709551616) : rargs ((xs.take (car op)).map Lib.decDigits) (car op) = xs := by
  have hc := car_le op
  have h1 : ((xs.take (car op)).map Lib.decDigits).map rnum = xs.take (car op) := by
    rw [List.map_map]
    have : ∀ x ∈ xs.take (car op), (rnum ∘ Lib.decDigits) x = id x := fun x hx => rnum_dec x (hw x (List.mem_of_mem_take hx))
    rw [List.map_congr_left this, List.map_id]
  unfold rargs
  rw [h1, List.take_of_length_le (by rw [List.length_take]; omega)]
  exact may_pad hm hx
theorem set_getD (l : List Nat) (k v : Nat) (h : k < l.length) : (l.set k v).getD k 0 = v := by simp [List.getD, h]
theorem set_set (l : List Nat) (k v w : Nat) : (l.set k v).set k w = l.set k w := by simp
theorem set_self (l : List Nat) (k : Nat) (h : k < l.length) (v : Nat) (e : l.getD k 0 = v) : l.set k v = l := by
  subst e
  have : l.getD k 0 = l[k] := by simp [List.getD, h]
  rw [this, List.set_getElem_self]
end
end Go.Am
end
