/- Which texts are calls; call.Untext; the document's cut, Op, Untext. -/
import Derived.Test.YtodiaabcaahnjaaGreatDoorL08
import Derived.Test.YtodiaabcaahnjaaGreatDoorP06
set_option linter.unusedVariables false
set_option linter.unusedSimpArgs false
section
namespace Go.Am
open Go Go.Proofs
set_option maxHeartbeats 8000000
set_option maxRecDepth 100000
section
attribute [local irreducible] aC aL thenQ blockQ scopeQ ALoop AWp
def IsCall (s : List UInt8) (op : Int) (xs : List Nat) : Prop := MayC op xs ∧ xs.length = 6 ∧ (∀ x ∈ xs, x < 18446744073709551616) ∧ ctx op xs = s
theorem parts_tail : ∀ (l : List Nat) (w : List UInt8), 32 ∉ w → parts (w ++ l.flatMap fun x => 32 :: Lib.decDigits x) [32] = w :: l.map Lib.decDigits
  | [], w, hw => by simpa using parts_miss 32 w hw
  | x :: l, w, hw => by
    have hd : (32 : UInt8) ∉ Lib.decDigits x := dec_no x 32 (.inl (by decide))
    rw [List.flatMap_cons, show w ++ (32 :: Lib.decDigits x ++ l.flatMap fun x => 32 :: Lib.decDigits x) = w ++ 32 :: (Lib.decDigits x ++ l.flatMap fun x => 32 :: Lib.decDigits x) by simp, parts_hit 32 w _ hw, parts_tail l _ hd, List.map_cons]
theorem may_pad {op : Int} {xs : List Nat} (h : MayC op xs) (hx : xs.length = 6) : xs.take (car op) ++ List.replicate (6 - car op) 0 = xs := by
  have h2 : xs.drop (car op) = List.replicate (6 - car op) 0 := by
    refine List.eq_replicate_iff.2 ⟨by simp; omega, h.2⟩
  rw [← h2, List.take_append_drop]
theorem call_parts {s : List UInt8} {op : Int} {xs : List Nat} (h : IsCall s op xs) : parts s [32] = cnm op :: (xs.take (car op)).map Lib.decDigits := by
  obtain ⟨hm, hx, hw, rfl⟩ := h
  exact parts_tail _ _ (cnm_in hm.1).2.2.1
theorem argsK_dec {op : Int} {xs : List Nat} (hm : MayC op xs) (hx : xs.length = 6) (hw : ∀ x ∈ xs, x < 18446744073709551616) : argsK ((xs.take (car op)).map Lib.decDigits) (car op) = xs := by
  have hc := car_le op
  have h1 : prs ((xs.take (car op)).map Lib.decDigits) = xs.take (car op) := by
    unfold prs
    rw [List.map_map]
    have : ∀ x ∈ xs.take (car op), ((fun x => (puP x).getD 0) ∘ Lib.decDigits) x = id x := fun x hx => by
      simp only [Function.comp_apply]
      rw [puP_dec x (hw x (List.mem_of_mem_take hx))]
      rfl
    rw [List.map_congr_left this, List.map_id]
  unfold argsK
  rw [h1, List.take_of_length_le (by rw [List.length_take]; omega)]
  exact may_pad hm hx
theorem untext_is {s : List UInt8} {op : Int} {xs : List Nat} (h : IsCall s op xs) :
    ACall cx 68 [.str s, .map 0] [.mpx TABLE 21] (.tup [.agg (.int .i64 op :: wl xs), .bool true]) [.mpx TABLE 21] := by
  have hp := call_parts h
  obtain ⟨hm, hx, hw, hs⟩ := h
  have hsl : s.length ≤ 115 := by rw [← hs]; exact ctx_len hw
  have hc := car_le op
  have hlen : ((xs.take (car op)).map Lib.decDigits).length = car op := by rw [List.length_map, List.length_take]; omega
  have hz := parts_sizes s [32]
  rw [hp] at hz
  have ha := argsK_dec hm hx hw
  have := untext_hit s (by omega) op hm.1 _ hp hlen (fun x hx => Nat.le_trans (hz x (List.mem_cons_of_mem _ hx)) (by omega)) (fun k hk => by
    rw [List.getElem_map]
    exact ⟨_, puP_dec _ (hw _ (List.mem_of_mem_take (List.getElem_mem _)))⟩) true (by rw [hlen, ha, hs]; simp)
  rw [hlen, ha] at this
  exact this
theorem untext_no {s : List UInt8} (hs : s.length ≤ 1048576) (h : ∀ op xs, ¬ IsCall s op xs) :
    ∃ (op : Int) (xs : List Nat), xs.length = 6 ∧ ACall cx 68 [.str s, .map 0] [.mpx TABLE 21] (.tup [.agg (.int .i64 op :: wl xs), .bool false]) [.mpx TABLE 21] := by
  obtain ⟨w0, wr, hw, hl⟩ := parts_len s [32] (by decide)
  have hz := parts_sizes s [32]
  rw [hw] at hz
  by_cases hh : ∃ op : Int, (1 ≤ op ∧ op ≤ 21) ∧ cnm op = w0 ∧ wr.length = car op
  · obtain ⟨op, ho, rfl, hwl⟩ := hh
    have hc := car_le op
    have hwp : ∀ x ∈ wr, x.length ≤ 1048576 := fun x hx => Nat.le_trans (hz x (List.mem_cons_of_mem _ hx)) hs
    by_cases hall : ∀ k (h : k < wr.length), ∃ v, puP wr[k] = some v
    · refine ⟨op, argsK wr wr.length, argsK_len wr wr.length (Nat.le_refl _) (by omega), untext_hit s hs op ho wr hw hwl hwp hall false (decide_eq_false ?_).symm⟩
      intro e
      refine h op (argsK wr wr.length) ⟨⟨ho, fun x hx => ?_⟩, argsK_len wr wr.length (Nat.le_refl _) (by omega), argsK_lt wr wr.length, e⟩
      unfold argsK at hx
      rw [List.drop_append, List.drop_eq_nil_of_le (by rw [List.length_take]; omega), List.nil_append] at hx
      exact (List.mem_replicate.1 (List.mem_of_mem_drop hx)).2
    · have : ∃ j, ∃ h : j < wr.length, puP wr[j] = none ∧ ∀ k, k < j → ∃ v, puP (wr.getD k []) = some v := by
        clear hz hw hwl hwp hl
        induction wr with
        | nil => exact absurd (fun k hk => by simp at hk) hall
        | cons y wr ih =>
          cases hy : puP y with
          | none => exact ⟨0, by simp, by simpa using hy, fun k hk => by omega⟩
          | some v =>
            obtain ⟨j, hj, h1, h2⟩ := ih (fun g => hall (fun k hk => by
              cases k with
              | zero => exact ⟨v, by simpa using hy⟩
              | succ k => simpa using g k (by simpa using hk)))
            refine ⟨j + 1, by simpa using hj, by simpa using h1, fun k hk => ?_⟩
            cases k with
            | zero => exact ⟨v, by simpa using hy⟩
            | succ k => simpa using h2 k (by omega)
      obtain ⟨j, hj, h1, h2⟩ := this
      exact ⟨0, [0, 0, 0, 0, 0, 0], rfl, untext_bad s hs op ho wr hw hwl hwp j hj h1 h2⟩
  · exact ⟨0, [0, 0, 0, 0, 0, 0], rfl, untext_miss s hs w0 wr hw (by omega) fun op ho k => hh ⟨op, ho, k.1, k.2⟩⟩
theorem plain_tcv (op : Int) (xs : List Nat) (b : Bool) : plainV (.tup [.agg (.int .i64 op :: wl xs), .bool b]) = true := by
  have := plain_cv op xs
  simp only [plainV, plainVs] at this ⊢
  simp [this]
theorem untext_lend {s : List UInt8} {r : AVal} (h : ACall cx 68 [.str s, .map 0] [.mpx TABLE 21] r [.mpx TABLE 21]) (hr : plainV r = true) {S : St} {i : Nat} (hS : S[i]? = some (.mpx TABLE 21)) :
    ACall cx 68 [.str s, .map i] S r S :=
  ACall.lendX cxG h (by kernel_rfl) hr hS rfl fun j h1 h0 => by
    match j, h1 with
    | 0, _ => exact .inl ⟨rfl, rfl⟩
    | 1, _ => exact .inr ⟨rfl, rfl⟩
theorem call_Untext (s : List UInt8) (hs : s.length ≤ 1048576) (r : AVal) (hr : (∃ op xs, IsCall s op xs ∧ r = .tup [.agg (.int .i64 op :: wl xs), .int .i64 0]) ∨
    ((∀ op xs, ¬ IsCall s op xs) ∧ r = .tup [.agg [.int .i64 0, .int .u64 0, .int .u64 0, .int .u64 0, .int .u64 0, .int .u64 0, .int .u64 0], .int .i64 4])) : APure cx 30 [.str s] r := by
  rcases hr with ⟨op, xs, h, rfl⟩ | ⟨h, rfl⟩
  case' inl =>
    have hx := h.2.1
    have hc := untext_lend (S := [.cells [.int .i64 0, .int .u64 0, .int .u64 0, .int .u64 0, .int .u64 0, .int .u64 0, .int .u64 0] 28] ++ [.mpx TABLE 21]) (i := 1) (untext_is h) (plain_tcv op xs true) rfl
  case' inr =>
    obtain ⟨op, xs, hx, h2⟩ := untext_no hs h
    have hc := untext_lend (S := [.cells [.int .i64 0, .int .u64 0, .int .u64 0, .int .u64 0, .int .u64 0, .int .u64 0, .int .u64 0] 28] ++ [.mpx TABLE 21]) (i := 1) h2 (plain_tcv op xs false) rfl
    clear h2
  all_goals
  clear h
  refine pure_fnK cxOk Tryz.func30 (fun _ => false) (fun _ => none) (by kernel_rfl) (by dsimp only [Tryz.f30, go_sem, seval] <;> rfl) ?_
  dsimp only [Tryz.f30, frame0, List.zipIdx, List.map, Nat.reduceAdd]
  try simp only [List.getElem?_toArray, List.getElem?_cons_succ, List.getElem?_cons_zero, Option.bind_some]
  repeat' (first | refine aC_seq ?_ | refine aC_reg rfl ?_ | refine aC_block ?_ | refine aC_skip ?_ | refine aC_loop ?_ | refine aC_scope ?_ | refine scopeQ_normal ?_ | refine scopeQ_exit ?_ | refine scopeQ_ret ?_ | refine aC_exit ?_ | refine aC_ret ?_ | refine thenQ_normal ?_ | refine blockQ_normal ?_ | refine thenQ_ret ?_ | refine blockQ_ret ?_ | refine thenQ_exit ?_ | refine blockQ_hit ?_ | refine blockQ_miss rfl ?_ | refine aL_nil ?_ | (apply aL_step; (· exact True.intro); (iterate 2 (· simp (disch := first | omega | (simp only [go_sem]; omega)) only [go_sem, seval, reduceCtorEq] <;> with_reducible rfl)); (· simp only [go_sem] <;> with_reducible rfl)) | (refine aL_skip ?_ (by simp only [go_sem] <;> with_reducible rfl) ?_; (· simp (disch := first | omega | (simp only [go_sem]; omega)) only [go_sem, seval, reduceCtorEq])) | (apply aL_guardN; (· simp (disch := first | omega | (simp only [go_sem]; omega)) only [go_sem, seval, reduceCtorEq] <;> with_reducible rfl); all_goals (intro h; first | (exfalso; omega) | (simp only [h, decide_true, decide_false, not_true, not_false_iff]))) | (apply aL_guardP; (· simp (disch := first | omega | (simp only [go_sem]; omega)) only [go_sem, seval, reduceCtorEq] <;> with_reducible rfl); all_goals (intro h; first | (exfalso; omega) | (simp only [h, decide_true, decide_false, not_true, not_false_iff]))) | (refine aC_condT ?_ ?_; (· simp (disch := first | omega | (simp only [go_sem]; omega)) only [go_sem, seval, reduceCtorEq])) | (refine aC_condF ?_ ?_; (· simp (disch := first | omega | (simp only [go_sem]; omega)) only [go_sem, seval, reduceCtorEq])) | (refine aC_condP (by simp (disch := first | omega | (simp only [go_sem]; omega)) only [go_sem, seval, reduceCtorEq] <;> with_reducible rfl) ?_ ?_ <;> (intro h; first | (exfalso; omega) | skip)) | (apply aL_aK (call_table _); (· rfl); (iterate 2 (· simp (disch := first | omega | (simp only [go_sem]; omega)) only [go_sem, seval, reduceCtorEq] <;> with_reducible rfl)); (· simp only [go_sem] <;> with_reducible rfl)) | (apply aL_acall (call_table _); (case hg => (simp (disch := first | omega | (simp only [go_sem]; omega)) only [go_sem, seval, reduceCtorEq])); (case hx => (simp (disch := first | omega | (simp only [go_sem]; omega)) only [go_sem, seval, reduceCtorEq] <;> with_reducible rfl)); (case ha => (simp (disch := first | omega | (simp only [go_sem]; omega)) only [go_sem, seval, reduceCtorEq] <;> with_reducible rfl)); (case he => (with_reducible rfl)); (case hp => (rfl)); (case hf => (simp only [go_sem] <;> with_reducible rfl))) | (apply aL_aK (hc); (· rfl); (iterate 2 (· simp (disch := first | omega | (simp only [go_sem]; omega)) only [go_sem, seval, reduceCtorEq] <;> with_reducible rfl)); (· simp only [go_sem] <;> with_reducible rfl)) | (apply aL_acall (hc); (case hg => (simp (disch := first | omega | (simp only [go_sem]; omega)) only [go_sem, seval, reduceCtorEq])); (case hx => (simp (disch := first | omega | (simp only [go_sem]; omega)) only [go_sem, seval, reduceCtorEq] <;> with_reducible rfl)); (case ha => (simp (disch := first | omega | (simp only [go_sem]; omega)) only [go_sem, seval, reduceCtorEq] <;> with_reducible rfl)); (case he => (with_reducible rfl)); (case hp => (rfl)); (case hf => (simp only [go_sem] <;> with_reducible rfl))) | fail)
  all_goals try (first | exact True.intro | exact not_false | omega | (simp (disch := first | omega | (simp only [go_sem]; omega)) only [go_sem, seval, reduceCtorEq] <;> omega))
  all_goals (clear hc)
  all_goals try (simp (disch := first | omega | (simp only [go_sem]; omega)) only [go_sem, seval, reduceCtorEq])
  all_goals try simp
  all_goals omega
end
end Go.Am
end
section
namespace Go.Am
open Go Go.Proofs
set_option maxHeartbeats 8000000
set_option maxRecDepth 100000
section
attribute [local irreducible] aC aL thenQ blockQ scopeQ ALoop AWp
end
end Go.Am
end
section
namespace Go.Am
open Go Go.Proofs
set_option maxHeartbeats 8000000
set_option maxRecDepth 100000
section
attribute [local irreducible] aC aL thenQ blockQ scopeQ ALoop AWp
theorem set_set (l : List Nat) (k v w : Nat) : (l.set k v).set k w = l.set k w := by simp
end
end Go.Am
end
