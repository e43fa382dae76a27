/- The law ReportBits: bytes to be written, a bit turned. -/
import Derived.Test.YtbaminbodfidmaaDoorR08
import Derived.Test.YtbaminbodfidmaaDoorAmFreshR
section
set_option linter.unusedVariables false
set_option linter.unusedSimpArgs false
namespace Go.Am
open Go Go.Proofs
set_option linter.unusedSimpArgs false
set_option linter.unusedVariables false
set_option maxHeartbeats 8000000
set_option maxRecDepth 100000
section
attribute [local irreducible] aC aL thenQ blockQ scopeQ ALoop AWp

theorem report_BytesR (n : Nat) (m c : List UInt8) (hn : n < 18446744073709551616) (hm : m.length = 32) (hc : c.length = 32) :
    ACall cx 14 [.agg (repc n m c)] [] (.sl 1 false (bl (repB n m c)) (.own 1)) [.cells [.sl 1 false (bl (repB n m c)) (.own 1)] 22, .grow 80 1 5] := by
  have hp : APure cx 30 [.int .u64 n, .int .i64 8] (.tup [.sl 1 false (bl (putl n 8)) .any, .int .i64 0]) := wire_put n 8 (by decide) (by decide) hn
  have hpl : (putl n 8).length = 8 := putl_length n 8
  unfold repc repB
  generalize putl n 8 = pb at *
  obtain ⟨L, hL⟩ : ∃ L : List (Tag × Bool × List UInt8), L = [(.full, false, MARK), (.any, false, pb), (.any, false, m), (.any, false, c)] := ⟨_, rfl⟩
  have hLl : L.length = 4 := by rw [hL]; rfl
  have hLb : bslT L = [.sl 1 false [.int .u8 114, .int .u8 101, .int .u8 112, .int .u8 111, .int .u8 114, .int .u8 116, .int .u8 0, .int .u8 0] .full, .sl 1 false (bl pb) .any, .sl 1 false (bl m) .any, .sl 1 false (bl c) .any] := by rw [hL]; rfl
  have hLj : joinl (L.map (·.2.2)) = MARK ++ (pb ++ (m ++ c)) := by rw [hL]; simp [joinl]
  have hlen : (joinl (L.map (·.2.2))).length = 80 := by rw [hLj]; simp [MARK, hpl, hm, hc]
  rw [← hLj]
  refine acall_fn cxOk Tryd.func14 (by kernel_rfl) (fun _ => false) (fe14.q) (by kernel_rfl) (Nat.le_of_ble_eq_true (by kernel_rfl)) ?_
  dsimp only [LB, Tryd.f14, lite, nextOf, Option.isNone, Bool.not_true, Bool.not_false, Bool.and_true, Bool.true_and, Bool.false_and, Bool.and_self, Bool.false_eq_true, if_false, if_true, ↓reduceIte, liteO, List.map, Option.map, frame0, List.zipIdx, Nat.reduceAdd]
  try simp only [List.getElem?_toArray, List.getElem?_cons_succ, List.getElem?_cons_zero, Option.bind_some]
  repeat' (first
    | (apply aL_boxI; (case hg => (simp (disch := first | omega | (simp only [go_sem]; omega)) only [go_sem, get_miss, seval, reduceCtorEq])); (case h => (simp (disch := first | omega | (simp only [go_sem]; omega)) only [go_sem, get_miss, seval, reduceCtorEq] <;> with_reducible rfl)); (case hf => (simp only [go_sem] <;> with_reducible rfl)); (case hs => (simp (disch := first | omega | (simp only [go_sem]; omega)) only [go_sem, get_miss, seval, reduceCtorEq])))
    | (apply aL_lit (t := 22); (case hg => (simp (disch := first | omega | (simp only [go_sem]; omega)) only [go_sem, get_miss, seval, reduceCtorEq])); (case hi => (simp (disch := first | omega | (simp only [go_sem]; omega)) only [go_sem, get_miss, seval, reduceCtorEq] <;> with_reducible rfl)); (case hd => (rfl)); (case hj => (simp (disch := first | omega | (simp only [go_sem]; omega)) only [go_sem, get_miss, seval, reduceCtorEq] <;> with_reducible rfl)); (case hl => (simp (disch := first | omega | (simp only [go_sem]; omega)) only [go_sem, get_miss, seval, reduceCtorEq] <;> with_reducible rfl)); (case hf => (simp only [go_sem] <;> with_reducible rfl)))
    | refine aC_seq ?_
    | refine aC_reg rfl ?_
    | refine aC_block ?_
    | refine aC_skip ?_
    | refine aC_loop ?_
    | refine aC_scope ?_
    | refine scopeQ_normal ?_
    | refine scopeQ_exit ?_
    | refine scopeQ_ret ?_
    | refine aC_exit ?_
    | refine aC_ret ?_
    | refine thenQ_normal ?_
    | refine blockQ_normal ?_
    | refine thenQ_ret ?_
    | refine blockQ_ret ?_
    | refine thenQ_exit ?_
    | refine blockQ_hit ?_
    | refine blockQ_miss rfl ?_
    | refine aL_nil ?_
    | (apply aL_step; (· exact True.intro); (· simp (disch := first | omega | (simp only [go_sem]; omega)) only [go_sem, get_miss, seval, reduceCtorEq]); (· simp (disch := first | omega | (simp only [go_sem]; omega)) only [go_sem, get_miss, seval, reduceCtorEq] <;> with_reducible rfl); (· simp only [go_sem] <;> with_reducible rfl))
    | (refine aL_skip ?_ (by simp only [go_sem] <;> with_reducible rfl) ?_; (· simp (disch := first | omega | (simp only [go_sem]; omega)) only [go_sem, get_miss, seval, reduceCtorEq]))
    | (apply aL_guardN; (· simp (disch := first | omega | (simp only [go_sem]; omega)) only [go_sem, get_miss, seval, reduceCtorEq] <;> with_reducible rfl); all_goals (intro h; first | (exfalso; omega) | (simp only [h, decide_true, decide_false, not_true, not_false_iff])))
    | (apply aL_guardP; (· simp (disch := first | omega | (simp only [go_sem]; omega)) only [go_sem, get_miss, seval, reduceCtorEq] <;> with_reducible rfl); all_goals (intro h; first | (exfalso; omega) | (simp only [h, decide_true, decide_false, not_true, not_false_iff])))
    | (refine aC_condT ?_ ?_; (· simp (disch := first | omega | (simp only [go_sem]; omega)) only [go_sem, get_miss, seval, reduceCtorEq]))
    | (refine aC_condF ?_ ?_; (· simp (disch := first | omega | (simp only [go_sem]; omega)) only [go_sem, get_miss, seval, reduceCtorEq]))
    | (refine aC_condP (by simp (disch := first | omega | (simp only [go_sem]; omega)) only [go_sem, get_miss, seval, reduceCtorEq] <;> with_reducible rfl) ?_ ?_ <;> (intro h; first | (exfalso; omega) | skip))
    | (apply aL_pure cxG (hp); (case hg => (simp (disch := first | omega | (simp only [go_sem]; omega)) only [go_sem, get_miss, seval, reduceCtorEq])); (case hx => (simp (disch := first | omega | (simp only [go_sem]; omega)) only [go_sem, get_miss, seval, reduceCtorEq] <;> with_reducible rfl)); (case ha => (simp (disch := first | omega | (simp only [go_sem]; omega)) only [go_sem, get_miss, seval, reduceCtorEq] <;> with_reducible rfl)); (case he => (simp only [go_sem] <;> with_reducible rfl)); (case hcl => (simp)); (case hf => (simp only [go_sem] <;> with_reducible rfl)))
    | fail)
  all_goals try (refine ⟨by decide, by decide, ?_⟩; simp [aEval_const, ofConst, okc_int]; done)
  all_goals try (first | exact True.intro | exact not_false | omega)
  all_goals try (simp (disch := first | omega | (simp only [go_sem]; omega)) only [go_sem, get_miss, seval, reduceCtorEq] <;> first | exact True.intro | omega)
  · clear hp hLj hL
    refine loop_rule (cxOk.wp _ _) (σ := Nat) (fun k => [(25, .int .i64 k), (24, .int .i64 4), (23, .sl 1 false (bslT L) .full), (6, .fn (.func 31) [] [.ptr 0 0]), (5, .ptr 0 0)])
      (fun k => [.cells [.sl 1 (joinl ((L.take k).map (·.2.2))).isEmpty (bl (joinl ((L.take k).map (·.2.2)))) (.own 1)] 22, .grow (joinl ((L.take k).map (·.2.2))).length 1 5]) (fun k => 4 - k) (fun k => k ≤ 4)
      0 (GStep.ownG 0 0 1 5 rfl rfl) ⟨Nat.zero_le _, Sub.of_all (by simp [Fr.get, hLb]), rfl⟩ ?_
    intro k hk
    have hle : (joinl ((L.take k).map (·.2.2))).length ≤ (joinl (L.map (·.2.2))).length := by rw [List.map_take]; exact joinl_take_le _ _
    by_cases hlt : k < 4
    · have e1 : joinl ((L.take (k + 1)).map (·.2.2)) = joinl ((L.take k).map (·.2.2)) ++ (L.getD k (.any, true, [])).2.2 := by
        rw [take_succ_getD' L (.any, true, []) k (by omega), List.map_append, joinl_append]; simp [joinl]
      have hle2 : (joinl ((L.take (k + 1)).map (·.2.2))).length ≤ (joinl (L.map (·.2.2))).length := by rw [List.map_take]; exact joinl_take_le _ _
      rw [e1, List.length_append] at hle2
      have hb := bytes_put (joinl ((L.take k).map (·.2.2))) (L.getD k (.any, true, [])).2.2 (L.getD k (.any, true, [])).2.1 (L.getD k (.any, true, [])).1 (by omega)
      rw [← e1] at hb
      generalize hW' : joinl ((L.take (k + 1)).map (·.2.2)) = W' at *
      generalize joinl ((L.take k).map (·.2.2)) = W at *
      repeat' (first
        | refine aC_seq ?_
        | refine aC_reg rfl ?_
        | refine aC_block ?_
        | refine aC_skip ?_
        | refine aC_loop ?_
        | refine aC_scope ?_
        | refine scopeQ_normal ?_
        | refine scopeQ_exit ?_
        | refine scopeQ_ret ?_
        | refine aC_exit ?_
        | refine aC_ret ?_
        | refine thenQ_normal ?_
        | refine blockQ_normal ?_
        | refine thenQ_ret ?_
        | refine blockQ_ret ?_
        | refine thenQ_exit ?_
        | refine blockQ_hit ?_
        | refine blockQ_miss rfl ?_
        | refine aL_nil ?_
        | (apply aL_step; (· exact True.intro); (· simp (disch := first | omega | (simp only [go_sem]; omega)) only [go_sem, get_miss, seval, reduceCtorEq]); (· simp (disch := first | omega | (simp only [go_sem]; omega)) only [go_sem, get_miss, seval, reduceCtorEq] <;> with_reducible rfl); (· simp only [go_sem] <;> with_reducible rfl))
        | (refine aL_skip ?_ (by simp only [go_sem] <;> with_reducible rfl) ?_; (· simp (disch := first | omega | (simp only [go_sem]; omega)) only [go_sem, get_miss, seval, reduceCtorEq]))
        | (apply aL_guardN; (· simp (disch := first | omega | (simp only [go_sem]; omega)) only [go_sem, get_miss, seval, reduceCtorEq] <;> with_reducible rfl); all_goals (intro h; first | (exfalso; omega) | (simp only [h, decide_true, decide_false, not_true, not_false_iff])))
        | (apply aL_guardP; (· simp (disch := first | omega | (simp only [go_sem]; omega)) only [go_sem, get_miss, seval, reduceCtorEq] <;> with_reducible rfl); all_goals (intro h; first | (exfalso; omega) | (simp only [h, decide_true, decide_false, not_true, not_false_iff])))
        | (refine aC_condT ?_ ?_; (· simp (disch := first | omega | (simp only [go_sem]; omega)) only [go_sem, get_miss, seval, reduceCtorEq]))
        | (refine aC_condF ?_ ?_; (· simp (disch := first | omega | (simp only [go_sem]; omega)) only [go_sem, get_miss, seval, reduceCtorEq]))
        | (refine aC_condP (by simp (disch := first | omega | (simp only [go_sem]; omega)) only [go_sem, get_miss, seval, reduceCtorEq] <;> with_reducible rfl) ?_ ?_ <;> (intro h; first | (exfalso; omega) | skip))
        | (apply aL_acall (hb); (case hg => (simp (disch := first | omega | (simp only [go_sem]; omega)) only [go_sem, get_miss, seval, reduceCtorEq])); (case hx => (simp (disch := first | omega | (simp only [go_sem]; omega)) only [go_sem, get_miss, seval, reduceCtorEq] <;> with_reducible rfl)); (case ha => (simp (disch := first | omega | (simp only [go_sem]; omega)) only [go_sem, get_miss, seval, reduceCtorEq] <;> with_reducible rfl)); (case he => (with_reducible rfl)); (case hp => (rfl)); (case hf => (simp only [go_sem] <;> with_reducible rfl)))
        | fail)
      all_goals try (first | exact True.intro | exact not_false | omega)
      all_goals try (simp (disch := first | omega | (simp only [go_sem]; omega)) only [go_sem, get_miss, seval, reduceCtorEq] <;> first | exact True.intro | omega)
      all_goals exact ⟨k + 1, by omega, Sub.of_all (by simp [Fr.get]), by simp only [hW'], by omega⟩
    · have hk4 : k = L.length := by omega
      subst hk4
      rw [List.take_length] at *
      have hne : (joinl (L.map (·.2.2))).isEmpty = false := by cases h : joinl (L.map (·.2.2)); rw [h] at hlen; cases hlen; rfl
      rw [hne]
      generalize joinl (L.map (·.2.2)) = W at *
      repeat' (first
        | refine aC_seq ?_
        | refine aC_reg rfl ?_
        | refine aC_block ?_
        | refine aC_skip ?_
        | refine aC_loop ?_
        | refine aC_scope ?_
        | refine scopeQ_normal ?_
        | refine scopeQ_exit ?_
        | refine scopeQ_ret ?_
        | refine aC_exit ?_
        | refine aC_ret ?_
        | refine thenQ_normal ?_
        | refine blockQ_normal ?_
        | refine thenQ_ret ?_
        | refine blockQ_ret ?_
        | refine thenQ_exit ?_
        | refine blockQ_hit ?_
        | refine blockQ_miss rfl ?_
        | refine aL_nil ?_
        | (apply aL_step; (· exact True.intro); (· simp (disch := first | omega | (simp only [go_sem]; omega)) only [go_sem, get_miss, seval, reduceCtorEq]); (· simp (disch := first | omega | (simp only [go_sem]; omega)) only [go_sem, get_miss, seval, reduceCtorEq] <;> with_reducible rfl); (· simp only [go_sem] <;> with_reducible rfl))
        | (refine aL_skip ?_ (by simp only [go_sem] <;> with_reducible rfl) ?_; (· simp (disch := first | omega | (simp only [go_sem]; omega)) only [go_sem, get_miss, seval, reduceCtorEq]))
        | (apply aL_guardN; (· simp (disch := first | omega | (simp only [go_sem]; omega)) only [go_sem, get_miss, seval, reduceCtorEq] <;> with_reducible rfl); all_goals (intro h; first | (exfalso; omega) | (simp only [h, decide_true, decide_false, not_true, not_false_iff])))
        | (apply aL_guardP; (· simp (disch := first | omega | (simp only [go_sem]; omega)) only [go_sem, get_miss, seval, reduceCtorEq] <;> with_reducible rfl); all_goals (intro h; first | (exfalso; omega) | (simp only [h, decide_true, decide_false, not_true, not_false_iff])))
        | (refine aC_condT ?_ ?_; (· simp (disch := first | omega | (simp only [go_sem]; omega)) only [go_sem, get_miss, seval, reduceCtorEq]))
        | (refine aC_condF ?_ ?_; (· simp (disch := first | omega | (simp only [go_sem]; omega)) only [go_sem, get_miss, seval, reduceCtorEq]))
        | (refine aC_condP (by simp (disch := first | omega | (simp only [go_sem]; omega)) only [go_sem, get_miss, seval, reduceCtorEq] <;> with_reducible rfl) ?_ ?_ <;> (intro h; first | (exfalso; omega) | skip))
        | fail)
      all_goals try (first | exact True.intro | exact not_false | omega)
      all_goals try (simp (disch := first | omega | (simp only [go_sem]; omega)) only [go_sem, get_miss, seval, reduceCtorEq] <;> first | exact True.intro | omega)
      all_goals try (simp (disch := first | omega | (simp only [go_sem]; omega)) only [go_sem, get_miss, seval, reduceCtorEq])
      all_goals try simp
      all_goals exact hlen

theorem bels_blZ (n : Nat) (l : List UInt8) : bels n (bl l) = true := bels_iff.2 fun x hx => by obtain ⟨b, _, rfl⟩ := List.mem_map.1 hx; rfl
/-- A report's bytes, to be written. -/
theorem report_BytesF (S : St) (n : Nat) (m c : List UInt8) (hn : n < 18446744073709551616) (hm : m.length = 32) (hc : c.length = 32) :
    ACall cx 14 [.agg (repc n m c)] S (.vrow S.length 0 80) (S ++ [.row (bl (repB n m c)) 5]) := by
  have hl : (bl (repB n m c)).length = 80 := by rw [length_bl]; exact repB_len hm hc
  have h := ACall.freshR cxG (report_BytesR n m c hn hm hc) (by rw [hl]; rfl) (by intro e; rw [e] at hl; cases hl) (fun x hx => by obtain ⟨b, _, rfl⟩ := List.mem_map.1 hx; exact ⟨.int _ _, rfl⟩) (by simp [repc, bels, bel, bels_blZ]) S
  rw [hl] at h
  exact h

theorem xor_all : ((List.range 256).all fun x => (List.range 8).all fun j => decide (bits .xor .u8 (x : Int) ((2 ^ j : Nat) : Int) = ((Nat.xor x (2 ^ j) : Nat) : Int)) && decide (Nat.xor x (2 ^ j) ≠ x) && decide (Nat.xor x (2 ^ j) < 256)) = true := by kernel_rfl
/-- A byte, one bit of which is turned. -/
def turn (x : UInt8) (j : Nat) : UInt8 := UInt8.ofNat (Nat.xor x.toNat (2 ^ j))
theorem turn_ok (x : UInt8) {j : Nat} (h : j < 8) : bits .xor .u8 (x.toNat : Int) ((2 ^ j : Nat) : Int) = (((turn x j).toNat : Nat) : Int) ∧ turn x j ≠ x := by
  have h1 := List.all_eq_true.1 (List.all_eq_true.1 xor_all x.toNat (List.mem_range.2 x.toNat_lt)) j (List.mem_range.2 h)
  simp only [Bool.and_eq_true, decide_eq_true_eq] at h1
  obtain ⟨⟨h1, h2⟩, h3⟩ := h1
  have e : (turn x j).toNat = Nat.xor x.toNat (2 ^ j) := ofNat_toNat8 _ h3
  exact ⟨by rw [h1, e], fun k => h2 (by rw [← e, k])⟩
theorem bl_load {l : List UInt8} {k : Nat} (h : k < l.length) : (List.take 1 (List.drop k (bl l))).headD .any = .int .u8 ((l.getD k 0).toNat : Int) := by
  have h' : k < (bl l).length := by rw [length_bl]; exact h
  rw [List.drop_eq_getElem_cons h']
  simp [bl, bv, List.getD, h]
theorem bl_load2 {l : List UInt8} {k : Nat} (h : k < l.length) : (bl (List.take 1 (List.drop k l))).headD .any = .int .u8 ((l.getD k 0).toNat : Int) := by
  rw [← take_bl, ← drop_bl]; exact bl_load h
def byteAt (l : List UInt8) (k : Nat) : UInt8 := l.getD k 0
@[go_sem] theorem bl_ld1 {l : List UInt8} {k : Nat} (h : k < l.length) : (bl (List.take 1 (List.drop k l))).head?.getD .any = .int .u8 ((byteAt l k).toNat : Int) := by
  rw [← List.headD_eq_head?_getD]; exact bl_load2 h
@[go_sem] theorem bl_ld2 {l : List UInt8} {k : Nat} (h : k < l.length) : (bl (List.take 1 (List.drop k l))).headD .any = .int .u8 ((byteAt l k).toNat : Int) := bl_load2 h
@[go_sem] theorem bl_ld3 {l : List UInt8} {k : Nat} (h : k < l.length) : (List.take 1 (List.drop k (bl l))).headD .any = .int .u8 ((byteAt l k).toNat : Int) := bl_load h
@[go_sem] theorem bl_ld4 {l : List UInt8} {k : Nat} (h : k < l.length) : (List.take 1 (List.drop k (bl l))).head?.getD .any = .int .u8 ((byteAt l k).toNat : Int) := by
  rw [← List.headD_eq_head?_getD]; exact bl_load h
@[go_sem] theorem turn_xor {x : UInt8} {j : Nat} (h : j < 8) : bits .xor .u8 (x.toNat : Int) ((2 ^ j : Nat) : Int) = (((turn x j).toNat : Nat) : Int) := (turn_ok x h).1
@[go_sem] theorem turn_xor1 {x : UInt8} {j : Nat} (h : j < 8) : bits .xor .u8 (x.toNat : Int) ((2 : Int) ^ j) = (((turn x j).toNat : Nat) : Int) := by rw [← (turn_ok x h).1]; congr 1
@[go_sem] theorem byteAt_one {l : List UInt8} {k : Nat} : byteAt l (k * 1) = byteAt l k := by rw [Nat.mul_one]
theorem set_split {l : List UInt8} {k : Nat} {v : UInt8} (h : k < l.length) : l.set k v = List.take k l ++ [v] ++ List.drop (k + 1) l := by
  rw [List.set_eq_take_append_cons_drop, if_pos h]; simp
end
end Go.Am
end
section
set_option linter.unusedVariables false
set_option linter.unusedSimpArgs false
namespace Go.Am
open Go Go.Proofs
set_option linter.unusedSimpArgs false
set_option linter.unusedVariables false
set_option maxHeartbeats 8000000
set_option maxRecDepth 100000
section
attribute [local irreducible] aC aL thenQ blockQ scopeQ ALoop AWp

theorem law_bits (n : Nat) (m c : List UInt8) (bit : Int) (hn : n < 18446744073709551616) (hm : m.length = 32) (hc : c.length = 32) :
    APure cx 5 [.agg (repc n m c), .int .i64 bit] (.bool true) := by
  have hk := rep_known
  by_cases hr : 0 ≤ bit ∧ bit < 640
  case neg =>
    unfold repc
    refine pure_fn cxOk Tryd.func5 (by kernel_rfl) (fun _ => false) (fe5.q) (by kernel_rfl) (Nat.le_of_ble_eq_true (by kernel_rfl)) ?_
    dsimp only [LB, Tryd.f5, lite, nextOf, Option.isNone, Bool.not_true, Bool.not_false, Bool.and_true, Bool.true_and, Bool.false_and, Bool.and_self, Bool.false_eq_true, if_false, if_true, ↓reduceIte, liteO, List.map, Option.map, frame0, List.zipIdx, Nat.reduceAdd]
    try simp only [List.getElem?_toArray, List.getElem?_cons_succ, List.getElem?_cons_zero, Option.bind_some]
    repeat' (first
      | (apply aL_boxI; (case hg => (simp (disch := first | omega | (simp only [go_sem]; omega)) only [go_sem, get_miss, seval, reduceCtorEq])); (case h => (simp (disch := first | omega | (simp only [go_sem]; omega)) only [go_sem, get_miss, seval, reduceCtorEq] <;> with_reducible rfl)); (case hf => (simp only [go_sem] <;> with_reducible rfl)); (case hs => (simp (disch := first | omega | (simp only [go_sem]; omega)) only [go_sem, get_miss, seval, reduceCtorEq])))
      | refine aC_seq ?_
      | refine aC_reg rfl ?_
      | refine aC_block ?_
      | refine aC_skip ?_
      | refine aC_loop ?_
      | refine aC_scope ?_
      | refine scopeQ_normal ?_
      | refine scopeQ_exit ?_
      | refine scopeQ_ret ?_
      | refine aC_exit ?_
      | refine aC_ret ?_
      | refine thenQ_normal ?_
      | refine blockQ_normal ?_
      | refine thenQ_ret ?_
      | refine blockQ_ret ?_
      | refine thenQ_exit ?_
      | refine blockQ_hit ?_
      | refine blockQ_miss rfl ?_
      | refine aL_nil ?_
      | (apply aL_step; (· exact True.intro); (· simp (disch := first | omega | (simp only [go_sem]; omega)) only [go_sem, get_miss, seval, reduceCtorEq]); (· simp (disch := first | omega | (simp only [go_sem]; omega)) only [go_sem, get_miss, seval, reduceCtorEq] <;> with_reducible rfl); (· simp only [go_sem] <;> with_reducible rfl))
      | (refine aL_skip ?_ (by simp only [go_sem] <;> with_reducible rfl) ?_; (· simp (disch := first | omega | (simp only [go_sem]; omega)) only [go_sem, get_miss, seval, reduceCtorEq]))
      | (apply aL_guardN; (· simp (disch := first | omega | (simp only [go_sem]; omega)) only [go_sem, get_miss, seval, reduceCtorEq] <;> with_reducible rfl); all_goals (intro h; first | (exfalso; omega) | (simp only [h, decide_true, decide_false, not_true, not_false_iff])))
      | (apply aL_guardP; (· simp (disch := first | omega | (simp only [go_sem]; omega)) only [go_sem, get_miss, seval, reduceCtorEq] <;> with_reducible rfl); all_goals (intro h; first | (exfalso; omega) | (simp only [h, decide_true, decide_false, not_true, not_false_iff])))
      | (refine aC_condT ?_ ?_; (· simp (disch := first | omega | (simp only [go_sem]; omega)) only [go_sem, get_miss, seval, reduceCtorEq]))
      | (refine aC_condF ?_ ?_; (· simp (disch := first | omega | (simp only [go_sem]; omega)) only [go_sem, get_miss, seval, reduceCtorEq]))
      | (refine aC_condP (by simp (disch := first | omega | (simp only [go_sem]; omega)) only [go_sem, get_miss, seval, reduceCtorEq] <;> with_reducible rfl) ?_ ?_ <;> (intro h; first | (exfalso; omega) | skip))
      | (apply aL_pure cxG (hk); (case hg => (simp (disch := first | omega | (simp only [go_sem]; omega)) only [go_sem, get_miss, seval, reduceCtorEq])); (case hx => (simp (disch := first | omega | (simp only [go_sem]; omega)) only [go_sem, get_miss, seval, reduceCtorEq] <;> with_reducible rfl)); (case ha => (simp (disch := first | omega | (simp only [go_sem]; omega)) only [go_sem, get_miss, seval, reduceCtorEq] <;> with_reducible rfl)); (case he => (simp only [go_sem] <;> with_reducible rfl)); (case hcl => (simp)); (case hf => (simp only [go_sem] <;> with_reducible rfl)))
      | fail)
    all_goals try (first | exact True.intro | exact not_false | omega)
    all_goals try (simp (disch := first | omega | (simp only [go_sem]; omega)) only [go_sem, get_miss, seval, reduceCtorEq] <;> first | exact True.intro | omega)
    all_goals clear hk
    all_goals try (intro h; exact h True.intro)
    all_goals try (intro h; exact absurd True.intro h)
    all_goals try (simp (disch := first | omega | (simp only [go_sem]; omega)) only [go_sem, get_miss, seval, reduceCtorEq])
    all_goals try simp
  case pos =>
  obtain ⟨k, rfl⟩ := Int.eq_ofNat_of_zero_le hr.1
  have hF := report_BytesF [] n m c hn hm hc
  have hWl := repB_len (n := n) hm hc
  have hb8 := (repB_back hn hm hc).2.2.2
  have hinj : ∀ n' m' c', n' < 18446744073709551616 → m'.length = 32 → c'.length = 32 → repB n' m' c' ≠ repB n m c → (AVal.int .u64 (n' : Nat) :: bl (m' ++ c') = AVal.int .u64 (n : Nat) :: bl (m ++ c)) = False := by
    intro n' m' c' h1 h2 h3 h4
    rw [repc_eq h2 hm]
    exact eq_false fun e => h4 (by obtain ⟨rfl, rfl, rfl⟩ := e; rfl)
  have hq0 := law_num 0
  have hq4 := law_num 4
  simp only [List.length_nil, List.nil_append] at hF
  unfold repc at *
  generalize repB n m c = W at *
  have hx2 : turn (byteAt W (k / 8)) (k % 8) ≠ byteAt W (k / 8) := (turn_ok _ (by omega)).2
  have hi : k / 8 < W.length := by omega
  obtain ⟨W', hW'⟩ : ∃ W', W' = W.set (k / 8) (turn (byteAt W (k / 8)) (k % 8)) := ⟨_, rfl⟩
  have hWl' : W'.length = 80 := by rw [hW']; simpa using hWl
  have hbW : W' = List.take (k / 8) W ++ [turn (byteAt W (k / 8)) (k % 8)] ++ List.drop (k / 8 + 1) W := by rw [hW']; exact set_split hi
  have hne : W' ≠ W := fun e => hx2 (by
    have := congrArg (fun l => l.getD (k / 8) 0) e
    simp only [hW'] at this
    rw [show ∀ y, (W.set (k / 8) y).getD (k / 8) 0 = y from fun y => by simp [List.getD, hi]] at this
    exact this)
  have hOf := report_Of false W' (by simp) (by omega)
  have hq : ((k : Int) / 8) = ((k / 8 : Nat) : Int) := by omega
  have hmd : ((k : Int) % 8) = ((k % 8 : Nat) : Int) := by omega
  have hlt8 : k % 8 < 8 := by omega
  have hsh : IntKind.u8.wrap (2 ^ (min (k % 8) 8) : Int) = ((2 ^ (k % 8) : Nat) : Int) := by
    rw [Nat.min_eq_left (by omega)]
    have : k % 8 = 0 ∨ k % 8 = 1 ∨ k % 8 = 2 ∨ k % 8 = 3 ∨ k % 8 = 4 ∨ k % 8 = 5 ∨ k % 8 = 6 ∨ k % 8 = 7 := by omega
    rcases this with h | h | h | h | h | h | h | h <;> rw [h] <;> rfl
  have hsh2 : IntKind.u8.wrap (2 ^ (k % 8) : Int) = ((2 ^ (k % 8) : Nat) : Int) := by rw [Nat.min_eq_left (by omega)] at hsh; exact hsh
  have hlook : look1 [.row (bl W') 5] (.vrow 0 0 80) = .sl 1 false (bl W') .any := by
    simp only [look1, List.getElem?_cons_zero, List.drop_zero]
    rw [List.take_of_length_le (by rw [length_bl]; omega)]
  by_cases h64 : k < 64
  · have hmk : W'.take 8 ≠ MARK := fun e => hne (by
      rw [← hb8] at e
      have e2 : W'.drop 8 = W.drop 8 := by rw [hW', List.drop_set_of_lt (by omega)]
      rw [← List.take_append_drop 8 W', e, e2, List.take_append_drop])
    rw [if_neg (fun q => hmk q.2)] at hOf
    have hO : ACall cx 9 [.vrow 0 0 80] [.row (bl W') 5] (.tup [.agg repZ, .int .i64 4]) [.row (bl W') 5] := APure.lend cxG hOf (by rw [List.map_cons, hlook, List.map_nil]) (fun a ha => by
      rw [List.mem_singleton.1 ha]
      exact ⟨bl W', _, rfl, by rw [length_bl]; omega, fun x hx => by obtain ⟨b, _, rfl⟩ := List.mem_map.1 hx; rfl⟩) (by simp) (by simp [repZ, repc])
    have hZ : repZ = .int .u64 0 :: bl (List.replicate 64 0) := rfl
    simp only [List.reduceReplicate] at hZ
    rw [hZ, hbW] at hO
    clear hOf hZ hinj hmk
    refine pure_fn cxOk Tryd.func5 (by kernel_rfl) (fun _ => false) (fe5.q) (by kernel_rfl) (Nat.le_of_ble_eq_true (by kernel_rfl)) ?_
    dsimp only [LB, Tryd.f5, lite, nextOf, Option.isNone, Bool.not_true, Bool.not_false, Bool.and_true, Bool.true_and, Bool.false_and, Bool.and_self, Bool.false_eq_true, if_false, if_true, ↓reduceIte, liteO, List.map, Option.map, frame0, List.zipIdx, Nat.reduceAdd]
    try simp only [List.getElem?_toArray, List.getElem?_cons_succ, List.getElem?_cons_zero, Option.bind_some]
    repeat' (first
      | (apply aL_boxI; (case hg => (simp (disch := first | omega | (simp only [go_sem]; omega)) only [go_sem, get_miss, seval, reduceCtorEq, hq, hmd, hsh, hsh2, Nat.mul_one, Int.toNat_natCast, Int.one_mul, eq_self_iff_true, decide_true])); (case h => (simp (disch := first | omega | (simp only [go_sem]; omega)) only [go_sem, get_miss, seval, reduceCtorEq, hq, hmd, hsh, hsh2, Nat.mul_one, Int.toNat_natCast, Int.one_mul, eq_self_iff_true, decide_true] <;> with_reducible rfl)); (case hf => (simp only [go_sem] <;> with_reducible rfl)); (case hs => (simp (disch := first | omega | (simp only [go_sem]; omega)) only [go_sem, get_miss, seval, reduceCtorEq, hq, hmd, hsh, hsh2, Nat.mul_one, Int.toNat_natCast, Int.one_mul, eq_self_iff_true, decide_true])))
      | refine aC_seq ?_
      | refine aC_reg rfl ?_
      | refine aC_block ?_
      | refine aC_skip ?_
      | refine aC_loop ?_
      | refine aC_scope ?_
      | refine scopeQ_normal ?_
      | refine scopeQ_exit ?_
      | refine scopeQ_ret ?_
      | refine aC_exit ?_
      | refine aC_ret ?_
      | refine thenQ_normal ?_
      | refine blockQ_normal ?_
      | refine thenQ_ret ?_
      | refine blockQ_ret ?_
      | refine thenQ_exit ?_
      | refine blockQ_hit ?_
      | refine blockQ_miss rfl ?_
      | refine aL_nil ?_
      | (apply aL_step; (· exact True.intro); (· simp (disch := first | omega | (simp only [go_sem]; omega)) only [go_sem, get_miss, seval, reduceCtorEq, hq, hmd, hsh, hsh2, Nat.mul_one, Int.toNat_natCast, Int.one_mul, eq_self_iff_true, decide_true]); (· simp (disch := first | omega | (simp only [go_sem]; omega)) only [go_sem, get_miss, seval, reduceCtorEq, hq, hmd, hsh, hsh2, Nat.mul_one, Int.toNat_natCast, Int.one_mul, eq_self_iff_true, decide_true] <;> with_reducible rfl); (· simp only [go_sem] <;> with_reducible rfl))
      | (refine aL_skip ?_ (by simp only [go_sem] <;> with_reducible rfl) ?_; (· simp (disch := first | omega | (simp only [go_sem]; omega)) only [go_sem, get_miss, seval, reduceCtorEq, hq, hmd, hsh, hsh2, Nat.mul_one, Int.toNat_natCast, Int.one_mul, eq_self_iff_true, decide_true]))
      | (apply aL_guardN; (· simp (disch := first | omega | (simp only [go_sem]; omega)) only [go_sem, get_miss, seval, reduceCtorEq, hq, hmd, hsh, hsh2, Nat.mul_one, Int.toNat_natCast, Int.one_mul, eq_self_iff_true, decide_true] <;> with_reducible rfl); all_goals (intro h; first | (exfalso; omega) | (simp only [h, decide_true, decide_false, not_true, not_false_iff])))
      | (apply aL_guardP; (· simp (disch := first | omega | (simp only [go_sem]; omega)) only [go_sem, get_miss, seval, reduceCtorEq, hq, hmd, hsh, hsh2, Nat.mul_one, Int.toNat_natCast, Int.one_mul, eq_self_iff_true, decide_true] <;> with_reducible rfl); all_goals (intro h; first | (exfalso; omega) | (simp only [h, decide_true, decide_false, not_true, not_false_iff])))
      | (refine aC_condT ?_ ?_; (· simp (disch := first | omega | (simp only [go_sem]; omega)) only [go_sem, get_miss, seval, reduceCtorEq, hq, hmd, hsh, hsh2, Nat.mul_one, Int.toNat_natCast, Int.one_mul, eq_self_iff_true, decide_true]))
      | (refine aC_condF ?_ ?_; (· simp (disch := first | omega | (simp only [go_sem]; omega)) only [go_sem, get_miss, seval, reduceCtorEq, hq, hmd, hsh, hsh2, Nat.mul_one, Int.toNat_natCast, Int.one_mul, eq_self_iff_true, decide_true]))
      | (refine aC_condP (by simp (disch := first | omega | (simp only [go_sem]; omega)) only [go_sem, get_miss, seval, reduceCtorEq, hq, hmd, hsh, hsh2, Nat.mul_one, Int.toNat_natCast, Int.one_mul, eq_self_iff_true, decide_true] <;> with_reducible rfl) ?_ ?_ <;> (intro h; first | (exfalso; omega) | skip))
      | (apply aL_acall (hF); (case hg => (simp (disch := first | omega | (simp only [go_sem]; omega)) only [go_sem, get_miss, seval, reduceCtorEq, hq, hmd, hsh, hsh2, Nat.mul_one, Int.toNat_natCast, Int.one_mul, eq_self_iff_true, decide_true])); (case hx => (simp (disch := first | omega | (simp only [go_sem]; omega)) only [go_sem, get_miss, seval, reduceCtorEq, hq, hmd, hsh, hsh2, Nat.mul_one, Int.toNat_natCast, Int.one_mul, eq_self_iff_true, decide_true] <;> with_reducible rfl)); (case ha => (simp (disch := first | omega | (simp only [go_sem]; omega)) only [go_sem, get_miss, seval, reduceCtorEq, hq, hmd, hsh, hsh2, Nat.mul_one, Int.toNat_natCast, Int.one_mul, eq_self_iff_true, decide_true] <;> with_reducible rfl)); (case he => (with_reducible rfl)); (case hp => (rfl)); (case hf => (simp only [go_sem] <;> with_reducible rfl)))
      | (apply aL_acall (hO); (case hg => (simp (disch := first | omega | (simp only [go_sem]; omega)) only [go_sem, get_miss, seval, reduceCtorEq, hq, hmd, hsh, hsh2, Nat.mul_one, Int.toNat_natCast, Int.one_mul, eq_self_iff_true, decide_true])); (case hx => (simp (disch := first | omega | (simp only [go_sem]; omega)) only [go_sem, get_miss, seval, reduceCtorEq, hq, hmd, hsh, hsh2, Nat.mul_one, Int.toNat_natCast, Int.one_mul, eq_self_iff_true, decide_true] <;> with_reducible rfl)); (case ha => (simp (disch := first | omega | (simp only [go_sem]; omega)) only [go_sem, get_miss, seval, reduceCtorEq, hq, hmd, hsh, hsh2, Nat.mul_one, Int.toNat_natCast, Int.one_mul, eq_self_iff_true, decide_true] <;> with_reducible rfl)); (case he => (with_reducible rfl)); (case hp => (rfl)); (case hf => (simp only [go_sem] <;> with_reducible rfl)))
      | (apply aL_pure cxG (hq4); (case hg => (simp (disch := first | omega | (simp only [go_sem]; omega)) only [go_sem, get_miss, seval, reduceCtorEq, hq, hmd, hsh, hsh2, Nat.mul_one, Int.toNat_natCast, Int.one_mul, eq_self_iff_true, decide_true])); (case hx => (simp (disch := first | omega | (simp only [go_sem]; omega)) only [go_sem, get_miss, seval, reduceCtorEq, hq, hmd, hsh, hsh2, Nat.mul_one, Int.toNat_natCast, Int.one_mul, eq_self_iff_true, decide_true] <;> with_reducible rfl)); (case ha => (simp (disch := first | omega | (simp only [go_sem]; omega)) only [go_sem, get_miss, seval, reduceCtorEq, hq, hmd, hsh, hsh2, Nat.mul_one, Int.toNat_natCast, Int.one_mul, eq_self_iff_true, decide_true] <;> with_reducible rfl)); (case he => (simp only [go_sem] <;> with_reducible rfl)); (case hcl => (simp)); (case hf => (simp only [go_sem] <;> with_reducible rfl)))
      | (apply aL_pure cxG (hk); (case hg => (simp (disch := first | omega | (simp only [go_sem]; omega)) only [go_sem, get_miss, seval, reduceCtorEq, hq, hmd, hsh, hsh2, Nat.mul_one, Int.toNat_natCast, Int.one_mul, eq_self_iff_true, decide_true])); (case hx => (simp (disch := first | omega | (simp only [go_sem]; omega)) only [go_sem, get_miss, seval, reduceCtorEq, hq, hmd, hsh, hsh2, Nat.mul_one, Int.toNat_natCast, Int.one_mul, eq_self_iff_true, decide_true] <;> with_reducible rfl)); (case ha => (simp (disch := first | omega | (simp only [go_sem]; omega)) only [go_sem, get_miss, seval, reduceCtorEq, hq, hmd, hsh, hsh2, Nat.mul_one, Int.toNat_natCast, Int.one_mul, eq_self_iff_true, decide_true] <;> with_reducible rfl)); (case he => (simp only [go_sem] <;> with_reducible rfl)); (case hcl => (simp)); (case hf => (simp only [go_sem] <;> with_reducible rfl)))
      | fail)
    all_goals try (first | exact True.intro | exact not_false | omega)
    all_goals try (simp (disch := first | omega | (simp only [go_sem]; omega)) only [go_sem, get_miss, seval, reduceCtorEq] <;> first | exact True.intro | omega)
    all_goals clear hF hO hq0 hq4 hk
    all_goals try (exact ⟨by kernel_rfl, by kernel_rfl⟩)
    all_goals try (intro _ _ h; exact h.elim)
    all_goals try (exfalso; rename_i h; exact h True.intro)
    all_goals try (simp (disch := first | omega | (simp only [go_sem]; omega)) only [go_sem, get_miss, seval, reduceCtorEq])
    all_goals try simp
  · have hmk : W'.take 8 = MARK := by rw [← hb8, hW', List.take_set_of_le (by omega)]
    rw [if_pos ⟨hWl', hmk⟩] at hOf
    have hiff := (rep_bytes_iff W' hWl').2 hmk
    have hI := bI_lt W'
    have hM : (bM W').length = 32 := by unfold bM; simp; omega
    have hC : (bC W').length = 32 := by unfold bC; simp; omega
    have hBx := report_Bytes (bI W') (bM W') (bC W') hI hM hC
    have hxa := hinj (bI W') (bM W') (bC W') hI hM hC (by rw [hiff]; exact hne)
    rw [hiff] at hBx
    have hSm : APure cx 16 [.sl 1 false (bl W') .any, .sl 1 false (bl W') .any] (.bool true) := by
      have := ref_same false false W' W' (by omega) (by omega)
      rwa [decide_eq_true rfl] at this
    unfold repc at *
    generalize bI W' = xi at *
    generalize bM W' = xm at *
    generalize bC W' = xc at *
    have hO : ACall cx 9 [.vrow 0 0 80] [.row (bl W') 5] (.tup [.agg (.int .u64 xi :: bl (xm ++ xc)), .int .i64 0]) [.row (bl W') 5] := APure.lend cxG hOf (by rw [List.map_cons, hlook, List.map_nil]) (fun a ha => by
      rw [List.mem_singleton.1 ha]
      exact ⟨bl W', _, rfl, by rw [length_bl]; omega, fun x hx => by obtain ⟨b, _, rfl⟩ := List.mem_map.1 hx; rfl⟩) (by simp) (by simp)
    have hS : ∀ xs t, ACall cx 16 [.sl 1 false (bl W') .any, .vrow 0 0 80] [.row (bl W') 5, .cells xs t] (.bool true) [.row (bl W') 5, .cells xs t] := fun xs t => APure.lend cxG hSm (by
      simp only [List.map_cons, List.map_nil, look1, List.getElem?_cons_zero, List.drop_zero]
      rw [List.take_of_length_le (by rw [length_bl]; omega)]) (fun a ha => by
      rcases List.mem_cons.1 ha with rfl | ha
      · exact trivial
      · rw [List.mem_singleton.1 ha]
        exact ⟨bl W', _, rfl, by rw [length_bl]; omega, fun x hx => by obtain ⟨b, _, rfl⟩ := List.mem_map.1 hx; rfl⟩) (by simp) (by simp)
    have hxd : List.drop (xm.length + xc.length) (List.replicate 64 (0 : UInt8)) = [] := by rw [hM, hC]; rfl
    simp only [List.reduceReplicate] at hxd
    clear hOf hSm hiff hinj hmk
    simp only [hbW] at hS hBx hO
    refine pure_fn cxOk Tryd.func5 (by kernel_rfl) (fun _ => false) (fe5.q) (by kernel_rfl) (Nat.le_of_ble_eq_true (by kernel_rfl)) ?_
    dsimp only [LB, Tryd.f5, lite, nextOf, Option.isNone, Bool.not_true, Bool.not_false, Bool.and_true, Bool.true_and, Bool.false_and, Bool.and_self, Bool.false_eq_true, if_false, if_true, ↓reduceIte, liteO, List.map, Option.map, frame0, List.zipIdx, Nat.reduceAdd]
    try simp only [List.getElem?_toArray, List.getElem?_cons_succ, List.getElem?_cons_zero, Option.bind_some]
    repeat' (first
      | (apply aL_boxI; (case hg => (simp (disch := first | omega | (simp only [go_sem]; omega)) only [go_sem, get_miss, seval, reduceCtorEq, hq, hmd, hsh, hsh2, Nat.mul_one, hxa, hxd, List.append_nil, Int.toNat_natCast, Int.one_mul, eq_self_iff_true, decide_true])); (case h => (simp (disch := first | omega | (simp only [go_sem]; omega)) only [go_sem, get_miss, seval, reduceCtorEq, hq, hmd, hsh, hsh2, Nat.mul_one, hxa, hxd, List.append_nil, Int.toNat_natCast, Int.one_mul, eq_self_iff_true, decide_true] <;> with_reducible rfl)); (case hf => (simp only [go_sem] <;> with_reducible rfl)); (case hs => (simp (disch := first | omega | (simp only [go_sem]; omega)) only [go_sem, get_miss, seval, reduceCtorEq, hq, hmd, hsh, hsh2, Nat.mul_one, hxa, hxd, List.append_nil, Int.toNat_natCast, Int.one_mul, eq_self_iff_true, decide_true])))
      | refine aC_seq ?_
      | refine aC_reg rfl ?_
      | refine aC_block ?_
      | refine aC_skip ?_
      | refine aC_loop ?_
      | refine aC_scope ?_
      | refine scopeQ_normal ?_
      | refine scopeQ_exit ?_
      | refine scopeQ_ret ?_
      | refine aC_exit ?_
      | refine aC_ret ?_
      | refine thenQ_normal ?_
      | refine blockQ_normal ?_
      | refine thenQ_ret ?_
      | refine blockQ_ret ?_
      | refine thenQ_exit ?_
      | refine blockQ_hit ?_
      | refine blockQ_miss rfl ?_
      | refine aL_nil ?_
      | (apply aL_step; (· exact True.intro); (· simp (disch := first | omega | (simp only [go_sem]; omega)) only [go_sem, get_miss, seval, reduceCtorEq, hq, hmd, hsh, hsh2, Nat.mul_one, hxa, hxd, List.append_nil, Int.toNat_natCast, Int.one_mul, eq_self_iff_true, decide_true]); (· simp (disch := first | omega | (simp only [go_sem]; omega)) only [go_sem, get_miss, seval, reduceCtorEq, hq, hmd, hsh, hsh2, Nat.mul_one, hxa, hxd, List.append_nil, Int.toNat_natCast, Int.one_mul, eq_self_iff_true, decide_true] <;> with_reducible rfl); (· simp only [go_sem] <;> with_reducible rfl))
      | (refine aL_skip ?_ (by simp only [go_sem] <;> with_reducible rfl) ?_; (· simp (disch := first | omega | (simp only [go_sem]; omega)) only [go_sem, get_miss, seval, reduceCtorEq, hq, hmd, hsh, hsh2, Nat.mul_one, hxa, hxd, List.append_nil, Int.toNat_natCast, Int.one_mul, eq_self_iff_true, decide_true]))
      | (apply aL_guardN; (· simp (disch := first | omega | (simp only [go_sem]; omega)) only [go_sem, get_miss, seval, reduceCtorEq, hq, hmd, hsh, hsh2, Nat.mul_one, hxa, hxd, List.append_nil, Int.toNat_natCast, Int.one_mul, eq_self_iff_true, decide_true] <;> with_reducible rfl); all_goals (intro h; first | (exfalso; omega) | (simp only [h, decide_true, decide_false, not_true, not_false_iff])))
      | (apply aL_guardP; (· simp (disch := first | omega | (simp only [go_sem]; omega)) only [go_sem, get_miss, seval, reduceCtorEq, hq, hmd, hsh, hsh2, Nat.mul_one, hxa, hxd, List.append_nil, Int.toNat_natCast, Int.one_mul, eq_self_iff_true, decide_true] <;> with_reducible rfl); all_goals (intro h; first | (exfalso; omega) | (simp only [h, decide_true, decide_false, not_true, not_false_iff])))
      | (refine aC_condT ?_ ?_; (· simp (disch := first | omega | (simp only [go_sem]; omega)) only [go_sem, get_miss, seval, reduceCtorEq, hq, hmd, hsh, hsh2, Nat.mul_one, hxa, hxd, List.append_nil, Int.toNat_natCast, Int.one_mul, eq_self_iff_true, decide_true]))
      | (refine aC_condF ?_ ?_; (· simp (disch := first | omega | (simp only [go_sem]; omega)) only [go_sem, get_miss, seval, reduceCtorEq, hq, hmd, hsh, hsh2, Nat.mul_one, hxa, hxd, List.append_nil, Int.toNat_natCast, Int.one_mul, eq_self_iff_true, decide_true]))
      | (refine aC_condP (by simp (disch := first | omega | (simp only [go_sem]; omega)) only [go_sem, get_miss, seval, reduceCtorEq, hq, hmd, hsh, hsh2, Nat.mul_one, hxa, hxd, List.append_nil, Int.toNat_natCast, Int.one_mul, eq_self_iff_true, decide_true] <;> with_reducible rfl) ?_ ?_ <;> (intro h; first | (exfalso; omega) | skip))
      | (apply aL_acall (hF); (case hg => (simp (disch := first | omega | (simp only [go_sem]; omega)) only [go_sem, get_miss, seval, reduceCtorEq, hq, hmd, hsh, hsh2, Nat.mul_one, hxa, hxd, List.append_nil, Int.toNat_natCast, Int.one_mul, eq_self_iff_true, decide_true])); (case hx => (simp (disch := first | omega | (simp only [go_sem]; omega)) only [go_sem, get_miss, seval, reduceCtorEq, hq, hmd, hsh, hsh2, Nat.mul_one, hxa, hxd, List.append_nil, Int.toNat_natCast, Int.one_mul, eq_self_iff_true, decide_true] <;> with_reducible rfl)); (case ha => (simp (disch := first | omega | (simp only [go_sem]; omega)) only [go_sem, get_miss, seval, reduceCtorEq, hq, hmd, hsh, hsh2, Nat.mul_one, hxa, hxd, List.append_nil, Int.toNat_natCast, Int.one_mul, eq_self_iff_true, decide_true] <;> with_reducible rfl)); (case he => (with_reducible rfl)); (case hp => (rfl)); (case hf => (simp only [go_sem] <;> with_reducible rfl)))
      | (apply aL_acall (hO); (case hg => (simp (disch := first | omega | (simp only [go_sem]; omega)) only [go_sem, get_miss, seval, reduceCtorEq, hq, hmd, hsh, hsh2, Nat.mul_one, hxa, hxd, List.append_nil, Int.toNat_natCast, Int.one_mul, eq_self_iff_true, decide_true])); (case hx => (simp (disch := first | omega | (simp only [go_sem]; omega)) only [go_sem, get_miss, seval, reduceCtorEq, hq, hmd, hsh, hsh2, Nat.mul_one, hxa, hxd, List.append_nil, Int.toNat_natCast, Int.one_mul, eq_self_iff_true, decide_true] <;> with_reducible rfl)); (case ha => (simp (disch := first | omega | (simp only [go_sem]; omega)) only [go_sem, get_miss, seval, reduceCtorEq, hq, hmd, hsh, hsh2, Nat.mul_one, hxa, hxd, List.append_nil, Int.toNat_natCast, Int.one_mul, eq_self_iff_true, decide_true] <;> with_reducible rfl)); (case he => (with_reducible rfl)); (case hp => (rfl)); (case hf => (simp only [go_sem] <;> with_reducible rfl)))
      | (apply aL_pure cxG (hBx); (case hg => (simp (disch := first | omega | (simp only [go_sem]; omega)) only [go_sem, get_miss, seval, reduceCtorEq, hq, hmd, hsh, hsh2, Nat.mul_one, hxa, hxd, List.append_nil, Int.toNat_natCast, Int.one_mul, eq_self_iff_true, decide_true])); (case hx => (simp (disch := first | omega | (simp only [go_sem]; omega)) only [go_sem, get_miss, seval, reduceCtorEq, hq, hmd, hsh, hsh2, Nat.mul_one, hxa, hxd, List.append_nil, Int.toNat_natCast, Int.one_mul, eq_self_iff_true, decide_true] <;> with_reducible rfl)); (case ha => (simp (disch := first | omega | (simp only [go_sem]; omega)) only [go_sem, get_miss, seval, reduceCtorEq, hq, hmd, hsh, hsh2, Nat.mul_one, hxa, hxd, List.append_nil, Int.toNat_natCast, Int.one_mul, eq_self_iff_true, decide_true] <;> with_reducible rfl)); (case he => (simp only [go_sem] <;> with_reducible rfl)); (case hcl => (simp)); (case hf => (simp only [go_sem] <;> with_reducible rfl)))
      | (apply aL_acall ((hS _ _)); (case hg => (simp (disch := first | omega | (simp only [go_sem]; omega)) only [go_sem, get_miss, seval, reduceCtorEq, hq, hmd, hsh, hsh2, Nat.mul_one, hxa, hxd, List.append_nil, Int.toNat_natCast, Int.one_mul, eq_self_iff_true, decide_true])); (case hx => (simp (disch := first | omega | (simp only [go_sem]; omega)) only [go_sem, get_miss, seval, reduceCtorEq, hq, hmd, hsh, hsh2, Nat.mul_one, hxa, hxd, List.append_nil, Int.toNat_natCast, Int.one_mul, eq_self_iff_true, decide_true] <;> with_reducible rfl)); (case ha => (simp (disch := first | omega | (simp only [go_sem]; omega)) only [go_sem, get_miss, seval, reduceCtorEq, hq, hmd, hsh, hsh2, Nat.mul_one, hxa, hxd, List.append_nil, Int.toNat_natCast, Int.one_mul, eq_self_iff_true, decide_true] <;> with_reducible rfl)); (case he => (with_reducible rfl)); (case hp => (rfl)); (case hf => (simp only [go_sem] <;> with_reducible rfl)))
      | (apply aL_pure cxG (hq0); (case hg => (simp (disch := first | omega | (simp only [go_sem]; omega)) only [go_sem, get_miss, seval, reduceCtorEq, hq, hmd, hsh, hsh2, Nat.mul_one, hxa, hxd, List.append_nil, Int.toNat_natCast, Int.one_mul, eq_self_iff_true, decide_true])); (case hx => (simp (disch := first | omega | (simp only [go_sem]; omega)) only [go_sem, get_miss, seval, reduceCtorEq, hq, hmd, hsh, hsh2, Nat.mul_one, hxa, hxd, List.append_nil, Int.toNat_natCast, Int.one_mul, eq_self_iff_true, decide_true] <;> with_reducible rfl)); (case ha => (simp (disch := first | omega | (simp only [go_sem]; omega)) only [go_sem, get_miss, seval, reduceCtorEq, hq, hmd, hsh, hsh2, Nat.mul_one, hxa, hxd, List.append_nil, Int.toNat_natCast, Int.one_mul, eq_self_iff_true, decide_true] <;> with_reducible rfl)); (case he => (simp only [go_sem] <;> with_reducible rfl)); (case hcl => (simp)); (case hf => (simp only [go_sem] <;> with_reducible rfl)))
      | (apply aL_pure cxG (hk); (case hg => (simp (disch := first | omega | (simp only [go_sem]; omega)) only [go_sem, get_miss, seval, reduceCtorEq, hq, hmd, hsh, hsh2, Nat.mul_one, hxa, hxd, List.append_nil, Int.toNat_natCast, Int.one_mul, eq_self_iff_true, decide_true])); (case hx => (simp (disch := first | omega | (simp only [go_sem]; omega)) only [go_sem, get_miss, seval, reduceCtorEq, hq, hmd, hsh, hsh2, Nat.mul_one, hxa, hxd, List.append_nil, Int.toNat_natCast, Int.one_mul, eq_self_iff_true, decide_true] <;> with_reducible rfl)); (case ha => (simp (disch := first | omega | (simp only [go_sem]; omega)) only [go_sem, get_miss, seval, reduceCtorEq, hq, hmd, hsh, hsh2, Nat.mul_one, hxa, hxd, List.append_nil, Int.toNat_natCast, Int.one_mul, eq_self_iff_true, decide_true] <;> with_reducible rfl)); (case he => (simp only [go_sem] <;> with_reducible rfl)); (case hcl => (simp)); (case hf => (simp only [go_sem] <;> with_reducible rfl)))
      | fail)
    all_goals try (first | exact True.intro | exact not_false | omega)
    all_goals try (simp (disch := first | omega | (simp only [go_sem]; omega)) only [go_sem, get_miss, seval, reduceCtorEq] <;> first | exact True.intro | omega)
    all_goals clear hF hO hq0 hq4 hk hBx hS
    all_goals try (exact ⟨by kernel_rfl, by kernel_rfl⟩)
    all_goals try (intro _ _ h; exact h.elim)
    all_goals try (exfalso; rename_i h; exact h True.intro)
    all_goals try (simp (disch := first | omega | (simp only [go_sem]; omega)) only [go_sem, get_miss, seval, reduceCtorEq])
    all_goals try simp
end
end Go.Am
end
