/- The document's Untext. -/
import Derived.Test.YtodiaabcaahnjaaGreatDoorL09
set_option linter.unusedVariables false
set_option linter.unusedSimpArgs false
namespace Go.Am
open Go Go.Proofs
set_option maxHeartbeats 8000000
set_option maxRecDepth 100000
section
attribute [local irreducible] aC aL thenQ blockQ scopeQ ALoop AWp rst rnum
theorem i_sub (k : Nat) : ((k : Int) + 1 - 1) = (k : Int) := by omega
theorem ref_Untext (s : List UInt8) (hs : s.length ≤ 1048576) (r : AVal) (hr : (∃ op xs, IsCall s op xs ∧ r = .tup [.agg (.int .i64 op :: wl xs), .bool true]) ∨
    ((∀ op xs, ¬ IsCall s op xs) ∧ r = .tup [.agg [.int .i64 0, .int .u64 0, .int .u64 0, .int .u64 0, .int .u64 0, .int .u64 0, .int .u64 0], .bool false])) : APure cx 35 [.str s] r := by
  have hyes : ∀ op xs, IsCall s op xs → r = .tup [.agg (.int .i64 op :: wl xs), .bool true] := by
    intro op xs h
    rcases hr with ⟨op', xs', h', e⟩ | ⟨h', _⟩
    · obtain ⟨rfl, rfl⟩ := call_unique h h'
      exact e
    · exact absurd h (h' _ _)
  have hno : (∀ op xs, ¬ IsCall s op xs) → r = .tup [.agg [.int .i64 0, .int .u64 0, .int .u64 0, .int .u64 0, .int .u64 0, .int .u64 0, .int .u64 0], .bool false] := by
    intro h
    rcases hr with ⟨op', xs', h', e⟩ | ⟨_, e⟩
    · exact absurd h' (h _ _)
    · exact e
  clear hr
  have hcut := ref_cut s 32 hs
  obtain ⟨w0, wr, hw, hl⟩ := parts_len s [32] (by decide)
  have hz := parts_sizes s [32]
  rw [hw] at hcut hz
  rw [show (((32 : UInt8).toNat : Nat) : Int) = 32 from rfl] at hcut
  simp only [List.map_cons] at hcut
  have hop : ∃ q : Int, ((1 ≤ q ∧ q ≤ 21) ∧ cnm q = w0) ∨ (q = 0 ∧ ∀ op : Int, 1 ≤ op ∧ op ≤ 21 → cnm op ≠ w0) := by
    by_cases h : ∃ q : Int, (1 ≤ q ∧ q ≤ 21) ∧ cnm q = w0
    · obtain ⟨q, hq⟩ := h; exact ⟨q, .inl hq⟩
    · exact ⟨0, .inr ⟨rfl, fun op ho e => h ⟨op, ho, e⟩⟩⟩
  obtain ⟨q, hq⟩ := hop
  have hO := ref_Op w0 q hq
  have hI := ref_is q
  have hA := ref_Arity q
  have hml : maxLen = 9223372036854775807 := rfl
  by_cases h200 : s.length ≤ 200
  case neg =>
    rw [hno fun op xs h => h200 (by have := ctx_len (op := op) h.2.2.1; rw [h.2.2.2] at this; omega)]
    clear hyes hno
    refine pure_fn cxOk Tryz.func35 (by kernel_rfl) (fun _ => false) (fun _ => none) (by kernel_rfl) (Nat.le_of_ble_eq_true (by kernel_rfl)) ?_
    dsimp only [LB, Tryz.f35, lite, nextOf, Option.isNone, Bool.not_true, Bool.not_false, Bool.and_true, Bool.true_and, Bool.false_and, Bool.and_self, Bool.false_eq_true, if_false, if_true, ↓reduceIte, liteO, List.map, Option.map, frame0, List.zipIdx, Nat.reduceAdd]
    try simp only [List.getElem?_toArray, List.getElem?_cons_succ, List.getElem?_cons_zero, Option.bind_some]
    repeat' (first | refine aC_seq ?_ | refine aC_reg rfl ?_ | refine aC_ret ?_ | refine thenQ_normal ?_ | refine thenQ_ret ?_ | refine aL_nil ?_ | (apply aL_step; (· exact True.intro); (· simp (disch := first | omega | (simp only [go_sem]; omega)) only [go_sem, get_miss, seval, reduceCtorEq]); (· simp (disch := first | omega | (simp only [go_sem]; omega)) only [go_sem, get_miss, seval, reduceCtorEq] <;> with_reducible rfl); (· simp only [go_sem] <;> with_reducible rfl)) | (refine aL_skip ?_ (by simp only [go_sem] <;> with_reducible rfl) ?_; (· simp (disch := first | omega | (simp only [go_sem]; omega)) only [go_sem, get_miss, seval, reduceCtorEq])) | (apply aL_guardN; (· simp (disch := first | omega | (simp only [go_sem]; omega)) only [go_sem, get_miss, seval, reduceCtorEq] <;> with_reducible rfl); all_goals (intro h; first | (exfalso; omega) | (simp only [h, decide_true, decide_false, not_true, not_false_iff]))) | (refine aC_condT ?_ ?_; (· simp (disch := first | omega | (simp only [go_sem]; omega)) only [go_sem, get_miss, seval, reduceCtorEq])) | (apply aL_pure cxG (hcut); (case hg => (simp (disch := first | omega | (simp only [go_sem]; omega)) only [go_sem, get_miss, seval, reduceCtorEq])); (case hx => (simp (disch := first | omega | (simp only [go_sem]; omega)) only [go_sem, get_miss, seval, reduceCtorEq] <;> with_reducible rfl)); (case ha => (simp (disch := first | omega | (simp only [go_sem]; omega)) only [go_sem, get_miss, seval, reduceCtorEq] <;> with_reducible rfl)); (case he => (simp only [go_sem] <;> with_reducible rfl)); (case hcl => (simp)); (case hf => (simp only [go_sem] <;> with_reducible rfl))) | (apply aL_pure cxG (hO); (case hg => (simp (disch := first | omega | (simp only [go_sem]; omega)) only [go_sem, get_miss, seval, reduceCtorEq])); (case hx => (simp (disch := first | omega | (simp only [go_sem]; omega)) only [go_sem, get_miss, seval, reduceCtorEq] <;> with_reducible rfl)); (case ha => (simp (disch := first | omega | (simp only [go_sem]; omega)) only [go_sem, get_miss, seval, reduceCtorEq] <;> with_reducible rfl)); (case he => (simp only [go_sem] <;> with_reducible rfl)); (case hcl => (simp)); (case hf => (simp only [go_sem] <;> with_reducible rfl))) | fail)
    all_goals try (first | exact True.intro | exact not_false | omega)
    all_goals try (simp (disch := first | omega | (simp only [go_sem]; omega)) only [go_sem, get_miss, seval, reduceCtorEq] <;> first | exact True.intro | omega)
    all_goals first | trivial | omega | exact fun _ _ h => h.elim | skip
    all_goals try (simp (disch := first | omega | (simp only [go_sem]; omega)) only [go_sem, get_miss, seval, reduceCtorEq])
    all_goals try simp
  case pos =>
  rcases hq with ⟨hq, rfl⟩ | ⟨rfl, hq⟩
  case inr =>
    rw [hno fun op xs h => by
      have := call_parts h
      rw [hw] at this
      exact hq op h.1.1 (List.cons.inj this).1.symm]
    rw [decide_eq_false (by omega)] at hI
    clear hyes hno
    refine pure_fn cxOk Tryz.func35 (by kernel_rfl) (fun _ => false) (fun _ => none) (by kernel_rfl) (Nat.le_of_ble_eq_true (by kernel_rfl)) ?_
    dsimp only [LB, Tryz.f35, lite, nextOf, Option.isNone, Bool.not_true, Bool.not_false, Bool.and_true, Bool.true_and, Bool.false_and, Bool.and_self, Bool.false_eq_true, if_false, if_true, ↓reduceIte, liteO, List.map, Option.map, frame0, List.zipIdx, Nat.reduceAdd]
    try simp only [List.getElem?_toArray, List.getElem?_cons_succ, List.getElem?_cons_zero, Option.bind_some]
    repeat' (first | refine aC_seq ?_ | refine aC_reg rfl ?_ | refine aC_ret ?_ | refine thenQ_normal ?_ | refine thenQ_ret ?_ | refine aL_nil ?_ | (apply aL_step; (· exact True.intro); (· simp (disch := first | omega | (simp only [go_sem]; omega)) only [go_sem, get_miss, seval, reduceCtorEq]); (· simp (disch := first | omega | (simp only [go_sem]; omega)) only [go_sem, get_miss, seval, reduceCtorEq] <;> with_reducible rfl); (· simp only [go_sem] <;> with_reducible rfl)) | (refine aL_skip ?_ (by simp only [go_sem] <;> with_reducible rfl) ?_; (· simp (disch := first | omega | (simp only [go_sem]; omega)) only [go_sem, get_miss, seval, reduceCtorEq])) | (apply aL_guardN; (· simp (disch := first | omega | (simp only [go_sem]; omega)) only [go_sem, get_miss, seval, reduceCtorEq] <;> with_reducible rfl); all_goals (intro h; first | (exfalso; omega) | (simp only [h, decide_true, decide_false, not_true, not_false_iff]))) | (refine aC_condT ?_ ?_; (· simp (disch := first | omega | (simp only [go_sem]; omega)) only [go_sem, get_miss, seval, reduceCtorEq])) | (apply aL_pure cxG (hcut); (case hg => (simp (disch := first | omega | (simp only [go_sem]; omega)) only [go_sem, get_miss, seval, reduceCtorEq])); (case hx => (simp (disch := first | omega | (simp only [go_sem]; omega)) only [go_sem, get_miss, seval, reduceCtorEq] <;> with_reducible rfl)); (case ha => (simp (disch := first | omega | (simp only [go_sem]; omega)) only [go_sem, get_miss, seval, reduceCtorEq] <;> with_reducible rfl)); (case he => (simp only [go_sem] <;> with_reducible rfl)); (case hcl => (simp)); (case hf => (simp only [go_sem] <;> with_reducible rfl))) | (apply aL_pure cxG (hO); (case hg => (simp (disch := first | omega | (simp only [go_sem]; omega)) only [go_sem, get_miss, seval, reduceCtorEq])); (case hx => (simp (disch := first | omega | (simp only [go_sem]; omega)) only [go_sem, get_miss, seval, reduceCtorEq] <;> with_reducible rfl)); (case ha => (simp (disch := first | omega | (simp only [go_sem]; omega)) only [go_sem, get_miss, seval, reduceCtorEq] <;> with_reducible rfl)); (case he => (simp only [go_sem] <;> with_reducible rfl)); (case hcl => (simp)); (case hf => (simp only [go_sem] <;> with_reducible rfl))) | (apply aL_pure cxG (hI); (case hg => (simp (disch := first | omega | (simp only [go_sem]; omega)) only [go_sem, get_miss, seval, reduceCtorEq])); (case hx => (simp (disch := first | omega | (simp only [go_sem]; omega)) only [go_sem, get_miss, seval, reduceCtorEq] <;> with_reducible rfl)); (case ha => (simp (disch := first | omega | (simp only [go_sem]; omega)) only [go_sem, get_miss, seval, reduceCtorEq] <;> with_reducible rfl)); (case he => (simp only [go_sem] <;> with_reducible rfl)); (case hcl => (simp)); (case hf => (simp only [go_sem] <;> with_reducible rfl))) | fail)
    all_goals try (first | exact True.intro | exact not_false | omega)
    all_goals try (simp (disch := first | omega | (simp only [go_sem]; omega)) only [go_sem, get_miss, seval, reduceCtorEq] <;> first | exact True.intro | omega)
    all_goals first | trivial | omega | exact fun _ _ h => h.elim | skip
    all_goals try (simp (disch := first | omega | (simp only [go_sem]; omega)) only [go_sem, get_miss, seval, reduceCtorEq])
    all_goals try simp
  case inl =>
  rw [decide_eq_true hq] at hI
  rw [if_pos hq] at hA
  have hlm : (wr.map AVal.str).length = wr.length := List.length_map _
  by_cases hK : wr.length = car q
  case neg =>
    rw [hno fun op xs h => by
      have := call_parts h
      rw [hw] at this
      have ho : op = q := cnm_inj h.1.1 hq (List.cons.inj this).1.symm
      subst ho
      apply hK
      rw [(List.cons.inj this).2, List.length_map, List.length_take, h.2.1]
      have := car_le op
      omega]
    have hK' : ¬ ((wr.length : Int) = (car q : Int)) := by omega
    have hc := car_le q
    clear hyes hno
    generalize car q = K at *
    generalize cnm q = W at *
    refine pure_fn cxOk Tryz.func35 (by kernel_rfl) (fun _ => false) (fun _ => none) (by kernel_rfl) (Nat.le_of_ble_eq_true (by kernel_rfl)) ?_
    dsimp only [LB, Tryz.f35, lite, nextOf, Option.isNone, Bool.not_true, Bool.not_false, Bool.and_true, Bool.true_and, Bool.false_and, Bool.and_self, Bool.false_eq_true, if_false, if_true, ↓reduceIte, liteO, List.map, Option.map, frame0, List.zipIdx, Nat.reduceAdd]
    try simp only [List.getElem?_toArray, List.getElem?_cons_succ, List.getElem?_cons_zero, Option.bind_some]
    repeat' (first | refine aC_seq ?_ | refine aC_reg rfl ?_ | refine aC_ret ?_ | refine thenQ_normal ?_ | refine thenQ_ret ?_ | refine aL_nil ?_ | (apply aL_step; (· exact True.intro); (· simp (disch := first | omega | (simp only [go_sem]; omega)) only [go_sem, get_miss, seval, reduceCtorEq, hlm]); (· simp (disch := first | omega | (simp only [go_sem]; omega)) only [go_sem, get_miss, seval, reduceCtorEq, hlm] <;> with_reducible rfl); (· simp only [go_sem] <;> with_reducible rfl)) | (apply aL_guardN; (· simp (disch := first | omega | (simp only [go_sem]; omega)) only [go_sem, get_miss, seval, reduceCtorEq, hlm] <;> with_reducible rfl); all_goals (intro h; first | (exfalso; omega) | (simp only [h, decide_true, decide_false, not_true, not_false_iff]))) | (refine aC_condP (by simp (disch := first | omega | (simp only [go_sem]; omega)) only [go_sem, get_miss, seval, reduceCtorEq, hlm] <;> with_reducible rfl) ?_ ?_ <;> (intro h; first | (exfalso; omega) | skip)) | (apply aL_pure cxG (hcut); (case hg => (simp (disch := first | omega | (simp only [go_sem]; omega)) only [go_sem, get_miss, seval, reduceCtorEq, hlm])); (case hx => (simp (disch := first | omega | (simp only [go_sem]; omega)) only [go_sem, get_miss, seval, reduceCtorEq, hlm] <;> with_reducible rfl)); (case ha => (simp (disch := first | omega | (simp only [go_sem]; omega)) only [go_sem, get_miss, seval, reduceCtorEq, hlm] <;> with_reducible rfl)); (case he => (simp only [go_sem] <;> with_reducible rfl)); (case hcl => (simp)); (case hf => (simp only [go_sem] <;> with_reducible rfl))) | (apply aL_pure cxG (hO); (case hg => (simp (disch := first | omega | (simp only [go_sem]; omega)) only [go_sem, get_miss, seval, reduceCtorEq, hlm])); (case hx => (simp (disch := first | omega | (simp only [go_sem]; omega)) only [go_sem, get_miss, seval, reduceCtorEq, hlm] <;> with_reducible rfl)); (case ha => (simp (disch := first | omega | (simp only [go_sem]; omega)) only [go_sem, get_miss, seval, reduceCtorEq, hlm] <;> with_reducible rfl)); (case he => (simp only [go_sem] <;> with_reducible rfl)); (case hcl => (simp)); (case hf => (simp only [go_sem] <;> with_reducible rfl))) | (apply aL_pure cxG (hI); (case hg => (simp (disch := first | omega | (simp only [go_sem]; omega)) only [go_sem, get_miss, seval, reduceCtorEq, hlm])); (case hx => (simp (disch := first | omega | (simp only [go_sem]; omega)) only [go_sem, get_miss, seval, reduceCtorEq, hlm] <;> with_reducible rfl)); (case ha => (simp (disch := first | omega | (simp only [go_sem]; omega)) only [go_sem, get_miss, seval, reduceCtorEq, hlm] <;> with_reducible rfl)); (case he => (simp only [go_sem] <;> with_reducible rfl)); (case hcl => (simp)); (case hf => (simp only [go_sem] <;> with_reducible rfl))) | (apply aL_pure cxG (hA); (case hg => (simp (disch := first | omega | (simp only [go_sem]; omega)) only [go_sem, get_miss, seval, reduceCtorEq, hlm])); (case hx => (simp (disch := first | omega | (simp only [go_sem]; omega)) only [go_sem, get_miss, seval, reduceCtorEq, hlm] <;> with_reducible rfl)); (case ha => (simp (disch := first | omega | (simp only [go_sem]; omega)) only [go_sem, get_miss, seval, reduceCtorEq, hlm] <;> with_reducible rfl)); (case he => (simp only [go_sem] <;> with_reducible rfl)); (case hcl => (simp)); (case hf => (simp only [go_sem] <;> with_reducible rfl))) | fail)
    all_goals try (first | exact True.intro | exact not_false | omega)
    all_goals try (simp (disch := first | omega | (simp only [go_sem]; omega)) only [go_sem, get_miss, seval, reduceCtorEq] <;> first | exact True.intro | omega)
    all_goals first | trivial | omega | exact fun _ _ h => h.elim | skip
    all_goals try (simp (disch := first | omega | (simp only [go_sem]; omega)) only [go_sem, get_miss, seval, reduceCtorEq])
    all_goals try simp
  case pos =>
  have hc := car_le q
  have hwp : ∀ x ∈ wr, x.length ≤ 1048576 := fun x hx => Nat.le_trans (hz x (List.mem_cons_of_mem _ hx)) hs
  have hrl := rargs_len wr
  have hrs := rargs_succ wr
  have hra := rargs_at wr
  have hrt := ref_Text q (rargs wr wr.length) (hrl wr.length (Nat.le_refl _) (by omega)) (rargs_lt wr wr.length) hq
  have hfin : (ctx q (rargs wr wr.length) = s → r = .tup [.agg (.int .i64 q :: wl (rargs wr wr.length)), .bool true]) ∧ (ctx q (rargs wr wr.length) ≠ s → r = .tup [.agg [.int .i64 0, .int .u64 0, .int .u64 0, .int .u64 0, .int .u64 0, .int .u64 0, .int .u64 0], .bool false]) := by
    refine ⟨fun e => hyes q _ ⟨⟨hq, fun x hx => ?_⟩, hrl wr.length (Nat.le_refl _) (by omega), rargs_lt wr wr.length, e⟩, fun e => hno fun op xs h => e ?_⟩
    · unfold rargs at hx
      rw [List.drop_append, List.drop_eq_nil_of_le (by rw [List.length_take]; omega), List.nil_append] at hx
      exact (List.mem_replicate.1 (List.mem_of_mem_drop hx)).2
    · have := call_parts h
      rw [hw] at this
      have ho : op = q := cnm_inj h.1.1 hq (List.cons.inj this).1.symm
      subst ho
      rw [hK, (List.cons.inj this).2, rargs_dec h.1 h.2.1 h.2.2.1, h.2.2.2]
  clear hyes hno hz hl hw
  generalize hKK : car q = K at *
  generalize cnm q = W at *
  refine pure_fn cxOk Tryz.func35 (by kernel_rfl) (fun _ => false) (fun _ => none) (by kernel_rfl) (Nat.le_of_ble_eq_true (by kernel_rfl)) ?_
  dsimp only [LB, Tryz.f35, lite, nextOf, Option.isNone, Bool.not_true, Bool.not_false, Bool.and_true, Bool.true_and, Bool.false_and, Bool.and_self, Bool.false_eq_true, if_false, if_true, ↓reduceIte, liteO, List.map, Option.map, frame0, List.zipIdx, Nat.reduceAdd]
  try simp only [List.getElem?_toArray, List.getElem?_cons_succ, List.getElem?_cons_zero, Option.bind_some]
  repeat' (first | refine aC_seq ?_ | refine aC_reg rfl ?_ | refine aC_block ?_ | refine aC_skip ?_ | refine aC_loop ?_ | refine thenQ_normal ?_ | refine aL_nil ?_ | (apply aL_step; (· exact True.intro); (· simp (disch := first | omega | (simp only [go_sem]; omega)) only [go_sem, get_miss, seval, reduceCtorEq, hlm]); (· simp (disch := first | omega | (simp only [go_sem]; omega)) only [go_sem, get_miss, seval, reduceCtorEq, hlm] <;> with_reducible rfl); (· simp only [go_sem] <;> with_reducible rfl)) | (apply aL_guardN; (· simp (disch := first | omega | (simp only [go_sem]; omega)) only [go_sem, get_miss, seval, reduceCtorEq, hlm] <;> with_reducible rfl); all_goals (intro h; first | (exfalso; omega) | (simp only [h, decide_true, decide_false, not_true, not_false_iff]))) | (refine aC_condP (by simp (disch := first | omega | (simp only [go_sem]; omega)) only [go_sem, get_miss, seval, reduceCtorEq, hlm] <;> with_reducible rfl) ?_ ?_ <;> (intro h; first | (exfalso; omega) | skip)) | (apply aL_pure cxG (hcut); (case hg => (simp (disch := first | omega | (simp only [go_sem]; omega)) only [go_sem, get_miss, seval, reduceCtorEq, hlm])); (case hx => (simp (disch := first | omega | (simp only [go_sem]; omega)) only [go_sem, get_miss, seval, reduceCtorEq, hlm] <;> with_reducible rfl)); (case ha => (simp (disch := first | omega | (simp only [go_sem]; omega)) only [go_sem, get_miss, seval, reduceCtorEq, hlm] <;> with_reducible rfl)); (case he => (simp only [go_sem] <;> with_reducible rfl)); (case hcl => (simp)); (case hf => (simp only [go_sem] <;> with_reducible rfl))) | (apply aL_pure cxG (hO); (case hg => (simp (disch := first | omega | (simp only [go_sem]; omega)) only [go_sem, get_miss, seval, reduceCtorEq, hlm])); (case hx => (simp (disch := first | omega | (simp only [go_sem]; omega)) only [go_sem, get_miss, seval, reduceCtorEq, hlm] <;> with_reducible rfl)); (case ha => (simp (disch := first | omega | (simp only [go_sem]; omega)) only [go_sem, get_miss, seval, reduceCtorEq, hlm] <;> with_reducible rfl)); (case he => (simp only [go_sem] <;> with_reducible rfl)); (case hcl => (simp)); (case hf => (simp only [go_sem] <;> with_reducible rfl))) | (apply aL_pure cxG (hI); (case hg => (simp (disch := first | omega | (simp only [go_sem]; omega)) only [go_sem, get_miss, seval, reduceCtorEq, hlm])); (case hx => (simp (disch := first | omega | (simp only [go_sem]; omega)) only [go_sem, get_miss, seval, reduceCtorEq, hlm] <;> with_reducible rfl)); (case ha => (simp (disch := first | omega | (simp only [go_sem]; omega)) only [go_sem, get_miss, seval, reduceCtorEq, hlm] <;> with_reducible rfl)); (case he => (simp only [go_sem] <;> with_reducible rfl)); (case hcl => (simp)); (case hf => (simp only [go_sem] <;> with_reducible rfl))) | (apply aL_pure cxG (hA); (case hg => (simp (disch := first | omega | (simp only [go_sem]; omega)) only [go_sem, get_miss, seval, reduceCtorEq, hlm])); (case hx => (simp (disch := first | omega | (simp only [go_sem]; omega)) only [go_sem, get_miss, seval, reduceCtorEq, hlm] <;> with_reducible rfl)); (case ha => (simp (disch := first | omega | (simp only [go_sem]; omega)) only [go_sem, get_miss, seval, reduceCtorEq, hlm] <;> with_reducible rfl)); (case he => (simp only [go_sem] <;> with_reducible rfl)); (case hcl => (simp)); (case hf => (simp only [go_sem] <;> with_reducible rfl))) | fail)
  · clear hcut hO hI hA
    refine loop_rule (cxOk.wp _ _) (σ := Nat) (fun j => [(6, .int .i64 ((j : Int) + 1)), (5, .ptr 1 0), (4, .sl 1 false (.str W :: wr.map .str) .any), (2, .ptr 0 0), (0, .str s)])
      (fun j => [.cells [.int .i64 0, .int .u64 0, .int .u64 0, .int .u64 0, .int .u64 0, .int .u64 0, .int .u64 0] 28, .cells (.int .i64 q :: wl (rargs wr j)) 28]) (fun j => wr.length - j) (fun j => j ≤ wr.length) 0 (GStep.refl _ _) ⟨Nat.zero_le _, Sub.of_all (by simp [Fr.get]), by simp [rargs, wl]⟩ ?_
    intro j hj
    have hlj := hrl j hj (by omega)
    by_cases hlt : j < wr.length
    · have hx := hwp wr[j] (List.getElem_mem hlt)
      have hsj := hrs j hlt (by omega)
      have haj := hra j hj (by omega)
      have eg : (wr.map AVal.str).getD j .any = .str wr[j] := by simp [List.getD, hlt]
      clear hfin hrt hrl hrs hra hwp
      generalize wr[j] = y at *
      generalize hD : rargs wr j = D at *
      repeat' (first | refine aC_seq ?_ | refine aC_reg rfl ?_ | refine aC_block ?_ | refine aC_skip ?_ | refine aC_loop ?_ | refine thenQ_normal ?_ | refine aL_nil ?_ | (apply aL_step; (· exact True.intro); (· simp (disch := first | omega | (simp only [go_sem]; omega)) only [go_sem, get_miss, seval, reduceCtorEq, hlm]); (· simp (disch := first | omega | (simp only [go_sem]; omega)) only [go_sem, get_miss, seval, reduceCtorEq, hlm] <;> with_reducible rfl); (· simp only [go_sem] <;> with_reducible rfl)) | (refine aC_condP (by simp (disch := first | omega | (simp only [go_sem]; omega)) only [go_sem, get_miss, seval, reduceCtorEq, hlm] <;> with_reducible rfl) ?_ ?_ <;> (intro h; first | (exfalso; omega) | skip)) | fail)
      · refine loop_rule (cxOk.wp _ _) (σ := Nat) (fun k => [(7, .int .i64 k), (6, .int .i64 ((j : Int) + 1)), (5, .ptr 1 0), (4, .sl 1 false (.str W :: wr.map .str) .any), (2, .ptr 0 0), (0, .str s)])
          (fun k => [.cells [.int .i64 0, .int .u64 0, .int .u64 0, .int .u64 0, .int .u64 0, .int .u64 0, .int .u64 0] 28, .cells (.int .i64 q :: wl (D.set j (rnum (y.take k)))) 28]) (fun k => y.length - k) (fun k => k ≤ y.length) 0 (GStep.refl _ _) ⟨Nat.zero_le _, Sub.of_all (by simp [Fr.get]), by rw [set_self D j (by omega) _ (haj.trans rnum_nil.symm)]⟩ ?_
        intro k hk
        have hjD : j < (D.set j (rnum (y.take k))).length := by rw [List.length_set]; omega
        have hgj : (D.set j (rnum (y.take k))).getD j 0 = rnum (y.take k) := set_getD D j _ (by omega)
        by_cases hky : k < y.length
        · have hst := rnum_take y k hky
          have hrq := rst_eq (rnum (y.take k)) y[k]
          have hgk : y.getD k 0 = y[k] := by simp [List.getD, hky]
          have hss : ∀ v, (D.set j (rnum (y.take k))).set j v = D.set j v := fun v => set_set D j _ v
          have hcl := u8_lt y[k]
          rw [← hst] at hrq
          generalize hv2 : rnum (y.take (k + 1)) = v2 at *
          generalize rnum (y.take k) = v1 at *
          generalize y[k] = c at *
          repeat' (first | refine aC_seq ?_ | refine aC_reg rfl ?_ | refine aC_block ?_ | refine aC_skip ?_ | refine thenQ_normal ?_ | refine blockQ_normal ?_ | refine aL_nil ?_ | (apply aL_step; (· exact True.intro); (· simp (disch := first | omega | (simp only [go_sem]; omega)) only [go_sem, get_miss, seval, reduceCtorEq, hlm, eg, hgk, i_sub, hgj, hrq, hss]); (· simp (disch := first | omega | (simp only [go_sem]; omega)) only [go_sem, get_miss, seval, reduceCtorEq, hlm, eg, hgk, i_sub, hgj, hrq, hss] <;> with_reducible rfl); (· simp only [go_sem] <;> with_reducible rfl)) | (refine aC_condP (by simp (disch := first | omega | (simp only [go_sem]; omega)) only [go_sem, get_miss, seval, reduceCtorEq, hlm, eg, hgk, i_sub, hgj, hrq, hss] <;> with_reducible rfl) ?_ ?_ <;> (intro h; first | (exfalso; omega) | skip)) | fail)
          all_goals try (first | exact True.intro | exact not_false | omega)
          all_goals try (simp (disch := first | omega | (simp only [go_sem]; omega)) only [go_sem, get_miss, seval, reduceCtorEq] <;> first | exact True.intro | omega)
          all_goals first | omega | exact ⟨k + 1, by omega, Sub.of_all (by simp [Fr.get]), by simp [hss, hv2], by omega⟩
        · have hk' : k = y.length := by omega
          subst hk'
          rw [List.take_length, hsj]
          repeat' (first | refine aC_seq ?_ | refine aC_reg rfl ?_ | refine aC_exit ?_ | refine thenQ_normal ?_ | refine blockQ_normal ?_ | refine thenQ_exit ?_ | refine blockQ_hit ?_ | refine aL_nil ?_ | (apply aL_step; (· exact True.intro); (· simp (disch := first | omega | (simp only [go_sem]; omega)) only [go_sem, get_miss, seval, reduceCtorEq, hlm, eg]); (· simp (disch := first | omega | (simp only [go_sem]; omega)) only [go_sem, get_miss, seval, reduceCtorEq, hlm, eg] <;> with_reducible rfl); (· simp only [go_sem] <;> with_reducible rfl)) | (refine aC_condP (by simp (disch := first | omega | (simp only [go_sem]; omega)) only [go_sem, get_miss, seval, reduceCtorEq, hlm, eg] <;> with_reducible rfl) ?_ ?_ <;> (intro h; first | (exfalso; omega) | skip)) | fail)
          all_goals try (first | exact True.intro | exact not_false | omega)
          all_goals try (simp (disch := first | omega | (simp only [go_sem]; omega)) only [go_sem, get_miss, seval, reduceCtorEq] <;> first | exact True.intro | omega)
          all_goals first | omega | exact ⟨j + 1, by omega, Sub.of_all (by simp [Fr.get]), rfl, by omega⟩
      all_goals first | trivial | omega
    · have hj' : j = wr.length := by omega
      subst hj'
      clear hrl hrs hra hwp
      generalize rargs wr wr.length = D at *
      by_cases he : ctx q D = s
      · rw [hfin.1 he]
        rw [he] at hrt
        clear hfin
        repeat' (first | refine aC_seq ?_ | refine aC_reg rfl ?_ | refine aC_skip ?_ | refine aC_exit ?_ | refine aC_ret ?_ | refine thenQ_normal ?_ | refine thenQ_exit ?_ | refine blockQ_hit ?_ | refine aL_nil ?_ | (apply aL_step; (· exact True.intro); (· simp (disch := first | omega | (simp only [go_sem]; omega)) only [go_sem, get_miss, seval, reduceCtorEq, hlm, bne_self_eq_false, eq_self_iff_true, decide_true, decide_false, not_true_eq_false]); (· simp (disch := first | omega | (simp only [go_sem]; omega)) only [go_sem, get_miss, seval, reduceCtorEq, hlm, bne_self_eq_false, eq_self_iff_true, decide_true, decide_false, not_true_eq_false] <;> with_reducible rfl); (· simp only [go_sem] <;> with_reducible rfl)) | (refine aC_condF ?_ ?_; (· simp (disch := first | omega | (simp only [go_sem]; omega)) only [go_sem, get_miss, seval, reduceCtorEq, hlm, bne_self_eq_false, eq_self_iff_true, decide_true, decide_false, not_true_eq_false])) | (refine aC_condP (by simp (disch := first | omega | (simp only [go_sem]; omega)) only [go_sem, get_miss, seval, reduceCtorEq, hlm, bne_self_eq_false, eq_self_iff_true, decide_true, decide_false, not_true_eq_false] <;> with_reducible rfl) ?_ ?_ <;> (intro h; first | (exfalso; omega) | skip)) | (apply aL_pure cxG (hrt); (case hg => (simp (disch := first | omega | (simp only [go_sem]; omega)) only [go_sem, get_miss, seval, reduceCtorEq, hlm, bne_self_eq_false, eq_self_iff_true, decide_true, decide_false, not_true_eq_false])); (case hx => (simp (disch := first | omega | (simp only [go_sem]; omega)) only [go_sem, get_miss, seval, reduceCtorEq, hlm, bne_self_eq_false, eq_self_iff_true, decide_true, decide_false, not_true_eq_false] <;> with_reducible rfl)); (case ha => (simp (disch := first | omega | (simp only [go_sem]; omega)) only [go_sem, get_miss, seval, reduceCtorEq, hlm, bne_self_eq_false, eq_self_iff_true, decide_true, decide_false, not_true_eq_false] <;> with_reducible rfl)); (case he => (simp only [go_sem] <;> with_reducible rfl)); (case hcl => (simp)); (case hf => (simp only [go_sem] <;> with_reducible rfl))) | fail)
        all_goals try (first | exact True.intro | exact not_false | omega)
        all_goals try (simp (disch := first | omega | (simp only [go_sem]; omega)) only [go_sem, get_miss, seval, reduceCtorEq] <;> first | exact True.intro | omega)
        all_goals first | omega | skip
        all_goals try (simp (disch := first | omega | (simp only [go_sem]; omega)) only [go_sem, get_miss, seval, reduceCtorEq])
        all_goals try simp
        all_goals omega
      · rw [hfin.2 he]
        have hb : (ctx q D == s) = false := by simp [he]
        clear hfin
        generalize ctx q D = X at *
        repeat' (first | refine aC_seq ?_ | refine aC_reg rfl ?_ | refine aC_exit ?_ | refine aC_ret ?_ | refine thenQ_normal ?_ | refine thenQ_ret ?_ | refine thenQ_exit ?_ | refine blockQ_hit ?_ | refine aL_nil ?_ | (apply aL_step; (· exact True.intro); (· simp (disch := first | omega | (simp only [go_sem]; omega)) only [go_sem, get_miss, seval, reduceCtorEq, hlm, hb, he, decide_true, decide_false, not_false_eq_true]); (· simp (disch := first | omega | (simp only [go_sem]; omega)) only [go_sem, get_miss, seval, reduceCtorEq, hlm, hb, he, decide_true, decide_false, not_false_eq_true] <;> with_reducible rfl); (· simp only [go_sem] <;> with_reducible rfl)) | (refine aC_condT ?_ ?_; (· simp (disch := first | omega | (simp only [go_sem]; omega)) only [go_sem, get_miss, seval, reduceCtorEq, hlm, hb, he, decide_true, decide_false, not_false_eq_true])) | (refine aC_condP (by simp (disch := first | omega | (simp only [go_sem]; omega)) only [go_sem, get_miss, seval, reduceCtorEq, hlm, hb, he, decide_true, decide_false, not_false_eq_true] <;> with_reducible rfl) ?_ ?_ <;> (intro h; first | (exfalso; omega) | skip)) | (apply aL_pure cxG (hrt); (case hg => (simp (disch := first | omega | (simp only [go_sem]; omega)) only [go_sem, get_miss, seval, reduceCtorEq, hlm, hb, he, decide_true, decide_false, not_false_eq_true])); (case hx => (simp (disch := first | omega | (simp only [go_sem]; omega)) only [go_sem, get_miss, seval, reduceCtorEq, hlm, hb, he, decide_true, decide_false, not_false_eq_true] <;> with_reducible rfl)); (case ha => (simp (disch := first | omega | (simp only [go_sem]; omega)) only [go_sem, get_miss, seval, reduceCtorEq, hlm, hb, he, decide_true, decide_false, not_false_eq_true] <;> with_reducible rfl)); (case he => (simp only [go_sem] <;> with_reducible rfl)); (case hcl => (simp)); (case hf => (simp only [go_sem] <;> with_reducible rfl))) | fail)
        all_goals try (first | exact True.intro | exact not_false | omega)
        all_goals try (simp (disch := first | omega | (simp only [go_sem]; omega)) only [go_sem, get_miss, seval, reduceCtorEq] <;> first | exact True.intro | omega)
        all_goals first | omega | exact fun _ _ h => h.elim | skip
        all_goals try (simp (disch := first | omega | (simp only [go_sem]; omega)) only [go_sem, get_miss, seval, reduceCtorEq])
        all_goals try simp
        all_goals omega
  all_goals first | trivial | omega | exact fun _ _ h => h.elim | simp
end
end Go.Am
