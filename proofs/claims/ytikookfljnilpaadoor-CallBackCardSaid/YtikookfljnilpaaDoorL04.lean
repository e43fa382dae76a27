/- Numbers and bytes: wire's get, Put, Word, the document's; a call's bytes. -/
import Derived.Test.YtikookfljnilpaaDoorL03
set_option linter.unusedVariables false
set_option linter.unusedSimpArgs false
namespace Go.Am
open Go Go.Proofs
set_option linter.unusedSimpArgs false
set_option linter.unusedVariables false
set_option maxHeartbeats 4000000
set_option maxRecDepth 100000
section
attribute [local irreducible] aC aL thenQ blockQ scopeQ ALoop AWp

theorem take_succ_getD (l : List UInt8) (k : Nat) (h : k < l.length) : l.take (k + 1) = l.take k ++ [l.getD k 0] := by
  rw [List.take_succ_eq_append_getElem h]; simp [List.getD, h]
theorem foldMM_two (f : Int → Int → Int) (k : IntKind) (a b : Int) : foldMM f [.int k a, .int k b] = some (.int k (f a b)) := rfl
theorem minI_l {a b : Int} (h : a ≤ b) : minI a b = a := by unfold minI; rw [if_neg (by omega)]
theorem minI_r {a b : Int} (h : b ≤ a) : minI a b = b := by
  unfold minI
  split
  · rfl
  · omega
attribute [go_sem] foldMM_two minI_l minI_r

/-! Put -/
def putl (n : Nat) (size : Nat) : List UInt8 := (List.range size).map fun k => UInt8.ofNat (n / 256 ^ k % 256)
theorem putl_succ (n k : Nat) : putl n (k + 1) = putl n k ++ [UInt8.ofNat (n / 256 ^ k % 256)] := by simp [putl, List.range_succ]
@[simp] theorem putl_length (n k : Nat) : (putl n k).length = k := by simp [putl]
attribute [go_sem] putl_length
theorem ofNat_toNat8 (m : Nat) (h : m < 256) : (UInt8.ofNat m).toNat = m := by simp [UInt8.toNat_ofNat']; omega

/-! Get -/
def getl : List UInt8 → Nat
  | [] => 0
  | b :: r => b.toNat + 256 * getl r
theorem getl_lt : ∀ (l : List UInt8), getl l < 256 ^ l.length
  | [] => by simp [getl]
  | b :: r => by
    have := getl_lt r
    have hb := b.toNat_lt
    simp only [getl, List.length_cons, Nat.pow_succ]
    omega
theorem pow_256 (k : Nat) : (2 : Nat) ^ (8 * k) = 256 ^ k := by rw [Nat.pow_mul]
theorem shr_eq (n k : Nat) : Int.fdiv (n : Int) (2 ^ (8 * k)) = ((n / 256 ^ k : Nat) : Int) := by
  rw [Int.fdiv_eq_ediv_of_nonneg _ (Int.pow_nonneg (by decide)), ← pow_256 k]
  rw [Int.natCast_ediv]
  congr 1

theorem bits_or (a c s : Nat) (ha : a < 2 ^ s) (h : 2 ^ s * c + a < 18446744073709551616) : bits .or .u64 (a : Int) ((2 ^ s * c : Nat) : Int) = ((2 ^ s * c + a : Nat) : Int) := by
  have h0 : ∀ n : Nat, BitVec.ofInt 64 ((n : Nat) : Int) = BitVec.ofNat 64 n := fun n => by
    apply BitVec.eq_of_toNat_eq
    rw [BitVec.toNat_ofInt, BitVec.toNat_ofNat, ← Int.natCast_emod, Int.toNat_natCast]
  have h1 : BitVec.ofInt IntKind.u64.bits ((a : Nat) : Int) = BitVec.ofNat 64 a := h0 a
  have h2 : BitVec.ofInt IntKind.u64.bits ((2 ^ s * c : Nat) : Int) = BitVec.ofNat 64 (2 ^ s * c) := h0 _
  unfold bits
  simp only [h1, h2]
  have e : ((BitVec.ofNat 64 a) ||| (BitVec.ofNat 64 (2 ^ s * c))).toNat = 2 ^ s * c + a := by
    rw [BitVec.toNat_or, BitVec.toNat_ofNat, BitVec.toNat_ofNat, Nat.mod_eq_of_lt (by omega), Nat.mod_eq_of_lt (by omega), Nat.or_comm]
    exact (Nat.two_pow_add_eq_or_of_lt ha c).symm
  show IntKind.u64.wrap (((BitVec.ofNat 64 a) ||| (BitVec.ofNat 64 (2 ^ s * c))).toNat : Int) = _
  rw [e]
  exact IntWalk.u64_in _ ⟨by omega, by omega⟩

/-! get, Get -/
theorem getl_append : ∀ (a b : List UInt8), getl (a ++ b) = getl a + 256 ^ a.length * getl b
  | [], b => by simp [getl]
  | x :: a, b => by simp only [List.cons_append, getl, getl_append a b, List.length_cons, Nat.pow_succ, Nat.mul_add]; rw [Nat.mul_comm (256 ^ a.length) 256, Nat.mul_assoc, Nat.add_assoc]

theorem wire_get1 (nl : Bool) (l : List UInt8) (hl : l.length ≤ 8) : APure cx 62 [.sl 1 nl (bl l) .any] (.int .u64 (getl l)) := by
  refine pure_fn cxOk Tryd.func62 (by kernel_rfl) (fun _ => false) (fun _ => none) (by kernel_rfl) (Nat.le_of_ble_eq_true (by kernel_rfl)) ?_
  dsimp only [LB, Tryd.f62, lite, nextOf, Option.isNone, Bool.not_true, Bool.not_false, Bool.and_true, Bool.true_and, Bool.false_and, Bool.and_self, Bool.false_eq_true, if_false, if_true, ↓reduceIte, liteO, List.map, Option.map, frame0, List.zipIdx, Nat.reduceAdd]
  try simp only [List.getElem?_toArray, List.getElem?_cons_succ, List.getElem?_cons_zero, Option.bind_some]
  repeat' (first
    | refine aC_seq ?_
    | refine aC_reg rfl ?_
    | refine aC_block ?_
    | refine aC_loop ?_
    | refine thenQ_normal ?_
    | refine aL_nil ?_
    | (apply aL_step; (· exact True.intro); (· simp (disch := first | omega | (simp only [go_sem]; omega)) only [go_sem, get_miss, seval, reduceCtorEq]); (· simp (disch := first | omega | (simp only [go_sem]; omega)) only [go_sem, get_miss, seval, reduceCtorEq] <;> with_reducible rfl); (· simp only [go_sem] <;> with_reducible rfl))
    | fail)
  · refine loop_rule (cxOk.wp _ _) (σ := Nat) (fun k => [(3, .int .u64 (getl (l.take k) : Nat)), (8, .int .i64 k), (6, .sl 1 nl (bl l) .any), (7, .int .i64 l.length)])
      (fun k => []) (fun k => l.length - k) (fun k => k ≤ l.length) 0 (GStep.refl _ _) ⟨Nat.zero_le _, Sub.of_all (by simp [Fr.get, getl]), rfl⟩ ?_
    intro k hk
    have hb := u8_lt (l.getD k 0)
    have hlen : (l.take k).length = k := by simp; omega
    have hd := getl_lt (l.take k)
    have e1 : k < l.length → getl (l.take (k + 1)) = 2 ^ (8 * k) * (l.getD k 0).toNat + getl (l.take k) := fun h => by
      rw [take_succ_getD l k h, getl_append, hlen, pow_256]; simp only [getl, Nat.mul_zero, Nat.add_zero]; omega
    have hd2 := getl_lt (l.take (k + 1))
    have hp2 : k < l.length → (256 : Nat) ^ (l.take (k + 1)).length ≤ 256 ^ 8 := fun h => Nat.pow_le_pow_right (by decide) (by simp; omega)
    repeat' (first
      | refine aC_seq ?_
      | refine aC_reg rfl ?_
      | refine aC_block ?_
      | refine aC_skip ?_
      | refine aC_exit ?_
      | refine aC_ret ?_
      | refine thenQ_normal ?_
      | refine blockQ_normal ?_
      | refine thenQ_exit ?_
      | refine blockQ_hit ?_
      | refine aL_nil ?_
      | (apply aL_step; (· exact True.intro); (· simp (disch := first | omega | (simp only [go_sem]; omega)) only [go_sem, get_miss, seval, reduceCtorEq]); (· simp (disch := first | omega | (simp only [go_sem]; omega)) only [go_sem, get_miss, seval, reduceCtorEq] <;> with_reducible rfl); (· simp only [go_sem] <;> with_reducible rfl))
      | (refine aC_condP (by simp (disch := first | omega | (simp only [go_sem]; omega)) only [go_sem, get_miss, seval, reduceCtorEq] <;> with_reducible rfl) ?_ ?_ <;> (intro h; first | (exfalso; omega) | skip))
      | fail)
    all_goals try (first | exact True.intro | exact not_false | omega)
    all_goals try (simp (disch := first | omega | (simp only [go_sem]; omega)) only [go_sem, get_miss, seval, reduceCtorEq] <;> first | exact True.intro | omega)
    · have hlt : k < l.length := by omega
      have h1 := e1 hlt
      have h2 := hp2 hlt
      have e8 : (256 : Nat) ^ 8 = 18446744073709551616 := by decide
      have e2 : IntKind.u64.wrap (↑(l.getD k 0).toNat * 2 ^ (8 * k)) = ((2 ^ (8 * k) * (l.getD k 0).toNat : Nat) : Int) := by
        rw [show (↑(l.getD k 0).toNat * 2 ^ (8 * k) : Int) = ((2 ^ (8 * k) * (l.getD k 0).toNat : Nat) : Int) by simp [Int.mul_comm]]
        exact IntWalk.u64_in _ ⟨by omega, by omega⟩
      have hd3 := hd
      rw [hlen] at hd3
      have e3 := bits_or (getl (l.take k)) (l.getD k 0).toNat (8 * k) (by rw [pow_256]; exact hd3) (by omega)
      refine ⟨k + 1, by omega, Sub.of_all ?_, rfl, by omega⟩
      simp (disch := first | omega | (simp only [go_sem]; omega)) only [go_sem, get_miss, seval, reduceCtorEq, e2, e3, h1]
      simp
    · have hk2 : k = l.length := by omega
      subst hk2
      simp (disch := first | omega | (simp only [go_sem]; omega)) only [go_sem, get_miss, seval, reduceCtorEq, List.take_length]
      simp
  all_goals try (first | exact True.intro | exact not_false | omega)
  all_goals try (simp (disch := first | omega | (simp only [go_sem]; omega)) only [go_sem, get_miss, seval, reduceCtorEq] <;> first | exact True.intro | omega)

/-! wire.Put -/
theorem wire_put (n size : Nat) (hs : 1 ≤ size) (hs8 : size ≤ 8) (hn : n < 256 ^ size) : APure cx 42 [.int .u64 n, .int .i64 size] (.tup [.sl 1 false (bl (putl n size)) .any, .int .i64 0]) := by
  have hn64 : n < 18446744073709551616 := by
    have h1 : (256 : Nat) ^ size ≤ 256 ^ 8 := Nat.pow_le_pow_right (by decide) hs8
    have e8 : (256 : Nat) ^ 8 = 18446744073709551616 := by decide
    omega
  have e0 : Int.fdiv (n : Int) (2 ^ (8 * size)) = 0 := by rw [shr_eq, Nat.div_eq_of_lt hn]; rfl
  refine pure_fn cxOk Tryd.func42 (by kernel_rfl) (fun _ => false) (fun _ => none) (by kernel_rfl) (Nat.le_of_ble_eq_true (by kernel_rfl)) ?_
  dsimp only [LB, Tryd.f42, lite, nextOf, Option.isNone, Bool.not_true, Bool.not_false, Bool.and_true, Bool.true_and, Bool.false_and, Bool.and_self, Bool.false_eq_true, if_false, if_true, ↓reduceIte, liteO, List.map, Option.map, frame0, List.zipIdx, Nat.reduceAdd]
  try simp only [List.getElem?_toArray, List.getElem?_cons_succ, List.getElem?_cons_zero, Option.bind_some]
  repeat' (first
    | refine aC_seq ?_
    | refine aC_reg rfl ?_
    | refine aC_block ?_
    | refine aC_skip ?_
    | refine aC_loop ?_
    | refine thenQ_normal ?_
    | refine aL_nil ?_
    | (apply aL_step; (· exact True.intro); (· simp (disch := first | omega | (simp only [go_sem]; omega)) only [go_sem, get_miss, seval, reduceCtorEq]); (· simp (disch := first | omega | (simp only [go_sem]; omega)) only [go_sem, get_miss, seval, reduceCtorEq] <;> with_reducible rfl); (· simp only [go_sem] <;> with_reducible rfl))
    | (refine aL_skip ?_ (by simp only [go_sem] <;> with_reducible rfl) ?_; (· simp (disch := first | omega | (simp only [go_sem]; omega)) only [go_sem, get_miss, seval, reduceCtorEq]))
    | (apply aL_guardN; (· simp (disch := first | omega | (simp only [go_sem]; omega)) only [go_sem, get_miss, seval, reduceCtorEq] <;> with_reducible rfl); all_goals (intro h; first | (exfalso; omega) | (simp only [h, decide_true, decide_false, not_true, not_false_iff])))
    | (apply aL_guardP; (· simp (disch := first | omega | (simp only [go_sem]; omega)) only [go_sem, get_miss, seval, reduceCtorEq] <;> with_reducible rfl); all_goals (intro h; first | (exfalso; omega) | (simp only [h, decide_true, decide_false, not_true, not_false_iff])))
    | (refine aC_condF ?_ ?_; (· simp (disch := first | omega | (simp only [go_sem]; omega)) only [go_sem, get_miss, seval, reduceCtorEq]))
    | (refine aC_condP (by simp (disch := first | omega | (simp only [go_sem]; omega)) only [go_sem, get_miss, seval, reduceCtorEq] <;> with_reducible rfl) ?_ ?_ <;> (intro h; first | (exfalso; omega) | skip))
    | fail)
  all_goals try (first | exact True.intro | exact not_false | omega)
  all_goals try (simp (disch := first | omega | (simp only [go_sem]; omega)) only [go_sem, get_miss, seval, reduceCtorEq] <;> first | exact True.intro | omega)
  all_goals
    refine loop_rule (cxOk.wp _ _) (σ := Nat) (fun k => [(6, .sl 1 (decide (k = 0)) (bl (putl n k)) (.grow 0)), (26, .int .i64 k), (0, .int .u64 n), (25, .int .i64 size)])
      (fun k => [.grow k 1 5]) (fun k => size - k) (fun k => k ≤ size) 0 (GStep.nil 6 1 5 rfl) ⟨Nat.zero_le _, Sub.of_all (by simp [Fr.get, putl, bl]), by simp⟩ ?_
    intro k hk
    have e1 : IntKind.u8.wrap (Int.fdiv (n : Int) (2 ^ (8 * k))) = (((UInt8.ofNat (n / 256 ^ k % 256)).toNat : Nat) : Int) := by
      rw [shr_eq, ofNat_toNat8 _ (Nat.mod_lt _ (by decide)), IntKind.wrap_u8]; omega
    have e2 : putl n (k + 1) = putl n k ++ [UInt8.ofNat (n / 256 ^ k % 256)] := putl_succ _ _
    repeat' (first
      | refine aC_seq ?_
      | refine aC_reg rfl ?_
      | refine aC_block ?_
      | refine aC_skip ?_
      | refine aC_exit ?_
      | refine aC_ret ?_
      | refine thenQ_normal ?_
      | refine blockQ_normal ?_
      | refine thenQ_exit ?_
      | refine blockQ_hit ?_
      | refine aL_nil ?_
      | (apply aL_step; (· exact True.intro); (· simp (disch := first | omega | (simp only [go_sem]; omega)) only [go_sem, get_miss, seval, reduceCtorEq]); (· simp (disch := first | omega | (simp only [go_sem]; omega)) only [go_sem, get_miss, seval, reduceCtorEq] <;> with_reducible rfl); (· simp only [go_sem] <;> with_reducible rfl))
      | (refine aC_condP (by simp (disch := first | omega | (simp only [go_sem]; omega)) only [go_sem, get_miss, seval, reduceCtorEq] <;> with_reducible rfl) ?_ ?_ <;> (intro h; first | (exfalso; omega) | skip))
      | fail)
    all_goals try (first | exact True.intro | exact not_false | omega)
    all_goals try (simp (disch := first | omega | (simp only [go_sem]; omega)) only [go_sem, get_miss, seval, reduceCtorEq] <;> first | exact True.intro | omega)
    · refine ⟨k + 1, by omega, Sub.of_all ?_, by simp, by omega⟩
      simp (disch := first | omega | (simp only [go_sem]; omega)) only [go_sem, get_miss, seval, reduceCtorEq, e1, e2, append_bl1]
      simp
    · have hk2 : k = size := by omega
      subst hk2
      simp (disch := first | omega | (simp only [go_sem]; omega)) only [go_sem, get_miss, seval, reduceCtorEq]
      simp
      omega

theorem skbs_wl : ∀ {a b : List Nat}, a.length = b.length → skbs (wl a) (wl b) = true
  | [], [], _ => rfl
  | [], _ :: _, h => by cases h
  | _ :: _, [], h => by cases h
  | x :: a, y :: b, h => by
    rw [cons_wl, cons_wl, skbs_cons, skb_int, skbs_wl (by simpa using h)]; rfl
theorem aeqs_cons (x y : AVal) (a b : List AVal) : aeqs (x :: a) (y :: b) = (aeq x y && aeqs a b) := rfl
theorem aeq_int (k q : IntKind) (x y : Int) : aeq (.int k x) (.int q y) = (x == y) := rfl
theorem aeqs_wl : ∀ {a b : List Nat}, a.length = b.length → aeqs (wl a) (wl b) = decide (a = b)
  | [], [], _ => rfl
  | [], _ :: _, h => by cases h
  | _ :: _, [], h => by cases h
  | x :: a, y :: b, h => by
    rw [cons_wl, cons_wl, aeqs_cons, aeq_int, aeqs_wl (by simpa using h)]
    by_cases h1 : x = y
    · subst h1; simp
    · have : ¬ ((x : Int) = (y : Int)) := by omega
      simp [h1, this]

/-! Word -/
/-- The number of eight bytes. -/
def wdB (l : List UInt8) (i : Nat) : Nat := getl ((l.take (8 * i + 8)).drop (8 * i))
theorem wdB_lt (l : List UInt8) (i : Nat) : wdB l i < 18446744073709551616 := by
  have h := getl_lt ((l.take (8 * i + 8)).drop (8 * i))
  have h1 : (256 : Nat) ^ ((l.take (8 * i + 8)).drop (8 * i)).length ≤ 256 ^ 8 := Nat.pow_le_pow_right (by decide) (by simp; omega)
  have e8 : (256 : Nat) ^ 8 = 18446744073709551616 := by decide
  unfold wdB
  omega

theorem wire_word (nl : Bool) (l : List UInt8) (i : Int) (j : Nat) (hi : i = (j : Int)) (h : 8 * j + 8 ≤ l.length) (hl : l.length ≤ 1048576) : APure cx 47 [.sl 1 nl (bl l) .any, .int .i64 i] (.int .u64 (wdB l j)) := by
  subst hi
  have hg := wire_get1 nl ((l.take (8 * j + 8)).drop (8 * j)) (by simp; omega)
  have e1 : (8 * (j : Int)).toNat = 8 * j := by omega
  have e2 : (8 * (j : Int) + 8).toNat = 8 * j + 8 := by omega
  have e3 : getl ((l.take (8 * j + 8)).drop (8 * j)) = wdB l j := rfl
  rw [e3] at hg
  generalize wdB l j = W at *
  clear e3
  refine pure_fn cxOk Tryd.func47 (by kernel_rfl) (fun _ => false) (fun _ => none) (by kernel_rfl) (Nat.le_of_ble_eq_true (by kernel_rfl)) ?_
  dsimp only [LB, Tryd.f47, lite, nextOf, Option.isNone, Bool.not_true, Bool.not_false, Bool.and_true, Bool.true_and, Bool.false_and, Bool.and_self, Bool.false_eq_true, if_false, if_true, ↓reduceIte, liteO, List.map, Option.map, frame0, List.zipIdx, Nat.reduceAdd]
  try simp only [List.getElem?_toArray, List.getElem?_cons_succ, List.getElem?_cons_zero, Option.bind_some]
  repeat' (first
    | refine aC_seq ?_
    | refine aC_reg rfl ?_
    | refine aC_skip ?_
    | refine aC_ret ?_
    | refine thenQ_normal ?_
    | refine aL_nil ?_
    | (apply aL_step; (· exact True.intro); (· simp (disch := first | omega | (simp only [go_sem]; omega)) only [go_sem, get_miss, seval, reduceCtorEq, e1, e2]); (· simp (disch := first | omega | (simp only [go_sem]; omega)) only [go_sem, get_miss, seval, reduceCtorEq, e1, e2] <;> with_reducible rfl); (· simp only [go_sem] <;> with_reducible rfl))
    | (apply aL_guardN; (· simp (disch := first | omega | (simp only [go_sem]; omega)) only [go_sem, get_miss, seval, reduceCtorEq, e1, e2] <;> with_reducible rfl); all_goals (intro h; first | (exfalso; omega) | (simp only [h, decide_true, decide_false, not_true, not_false_iff])))
    | (refine aC_condP (by simp (disch := first | omega | (simp only [go_sem]; omega)) only [go_sem, get_miss, seval, reduceCtorEq, e1, e2] <;> with_reducible rfl) ?_ ?_ <;> (intro h; first | (exfalso; omega) | skip))
    | (apply aL_pure cxG (hg); (case hg => (simp (disch := first | omega | (simp only [go_sem]; omega)) only [go_sem, get_miss, seval, reduceCtorEq, e1, e2])); (case hx => (simp (disch := first | omega | (simp only [go_sem]; omega)) only [go_sem, get_miss, seval, reduceCtorEq, e1, e2] <;> with_reducible rfl)); (case ha => (simp (disch := first | omega | (simp only [go_sem]; omega)) only [go_sem, get_miss, seval, reduceCtorEq, e1, e2] <;> with_reducible rfl)); (case he => (simp only [go_sem] <;> with_reducible rfl)); (case hcl => (simp)); (case hf => (simp only [go_sem] <;> with_reducible rfl)))
    | fail)
  all_goals try (first | exact True.intro | exact not_false | omega)
  all_goals try (simp (disch := first | omega | (simp only [go_sem]; omega)) only [go_sem, get_miss, seval, reduceCtorEq] <;> first | exact True.intro | omega)
  all_goals (clear hg)
  all_goals try (simp (disch := first | omega | (simp only [go_sem]; omega)) only [go_sem, get_miss, seval, reduceCtorEq, e1, e2])
  all_goals try simp

/-! Put, behind a box -/
theorem wire_putA (c : ABox) (n size : Nat) (hs : 1 ≤ size) (hs8 : size ≤ 8) (hn : n < 256 ^ size) : ACall cx 42 [.int .u64 n, .int .i64 size] [c] (.tup [.sl 1 false (bl (putl n size)) (.grow 1), .int .i64 0]) [c, .grow size 1 5] := by
  have hn64 : n < 18446744073709551616 := by
    have h1 : (256 : Nat) ^ size ≤ 256 ^ 8 := Nat.pow_le_pow_right (by decide) hs8
    have e8 : (256 : Nat) ^ 8 = 18446744073709551616 := by decide
    omega
  have e0 : Int.fdiv (n : Int) (2 ^ (8 * size)) = 0 := by rw [shr_eq, Nat.div_eq_of_lt hn]; rfl
  refine acall_fn cxOk Tryd.func42 (by kernel_rfl) (fun _ => false) (fun _ => none) (by kernel_rfl) (Nat.le_of_ble_eq_true (by kernel_rfl)) ?_
  dsimp only [LB, Tryd.f42, lite, nextOf, Option.isNone, Bool.not_true, Bool.not_false, Bool.and_true, Bool.true_and, Bool.false_and, Bool.and_self, Bool.false_eq_true, if_false, if_true, ↓reduceIte, liteO, List.map, Option.map, frame0, List.zipIdx, Nat.reduceAdd]
  try simp only [List.getElem?_toArray, List.getElem?_cons_succ, List.getElem?_cons_zero, Option.bind_some]
  repeat' (first
    | refine aC_seq ?_
    | refine aC_reg rfl ?_
    | refine aC_block ?_
    | refine aC_skip ?_
    | refine aC_loop ?_
    | refine thenQ_normal ?_
    | refine aL_nil ?_
    | (apply aL_step; (· exact True.intro); (· simp (disch := first | omega | (simp only [go_sem]; omega)) only [go_sem, get_miss, seval, reduceCtorEq]); (· simp (disch := first | omega | (simp only [go_sem]; omega)) only [go_sem, get_miss, seval, reduceCtorEq] <;> with_reducible rfl); (· simp only [go_sem] <;> with_reducible rfl))
    | (refine aL_skip ?_ (by simp only [go_sem] <;> with_reducible rfl) ?_; (· simp (disch := first | omega | (simp only [go_sem]; omega)) only [go_sem, get_miss, seval, reduceCtorEq]))
    | (apply aL_guardN; (· simp (disch := first | omega | (simp only [go_sem]; omega)) only [go_sem, get_miss, seval, reduceCtorEq] <;> with_reducible rfl); all_goals (intro h; first | (exfalso; omega) | (simp only [h, decide_true, decide_false, not_true, not_false_iff])))
    | (apply aL_guardP; (· simp (disch := first | omega | (simp only [go_sem]; omega)) only [go_sem, get_miss, seval, reduceCtorEq] <;> with_reducible rfl); all_goals (intro h; first | (exfalso; omega) | (simp only [h, decide_true, decide_false, not_true, not_false_iff])))
    | (refine aC_condF ?_ ?_; (· simp (disch := first | omega | (simp only [go_sem]; omega)) only [go_sem, get_miss, seval, reduceCtorEq]))
    | (refine aC_condP (by simp (disch := first | omega | (simp only [go_sem]; omega)) only [go_sem, get_miss, seval, reduceCtorEq] <;> with_reducible rfl) ?_ ?_ <;> (intro h; first | (exfalso; omega) | skip))
    | fail)
  all_goals try (first | exact True.intro | exact not_false | omega)
  all_goals try (simp (disch := first | omega | (simp only [go_sem]; omega)) only [go_sem, get_miss, seval, reduceCtorEq] <;> first | exact True.intro | omega)
  all_goals
    refine loop_rule (cxOk.wp _ _) (σ := Nat) (fun k => [(6, .sl 1 (decide (k = 0)) (bl (putl n k)) (.grow 1)), (26, .int .i64 k), (0, .int .u64 n), (25, .int .i64 size)])
      (fun k => [c, .grow k 1 5]) (fun k => size - k) (fun k => k ≤ size) 0 (GStep.nil 6 1 5 rfl) ⟨Nat.zero_le _, Sub.of_all (by simp [Fr.get, putl, bl]), by simp⟩ ?_
    intro k hk
    have e1 : IntKind.u8.wrap (Int.fdiv (n : Int) (2 ^ (8 * k))) = (((UInt8.ofNat (n / 256 ^ k % 256)).toNat : Nat) : Int) := by
      rw [shr_eq, ofNat_toNat8 _ (Nat.mod_lt _ (by decide)), IntKind.wrap_u8]; omega
    have e2 : putl n (k + 1) = putl n k ++ [UInt8.ofNat (n / 256 ^ k % 256)] := putl_succ _ _
    repeat' (first
      | refine aC_seq ?_
      | refine aC_reg rfl ?_
      | refine aC_block ?_
      | refine aC_skip ?_
      | refine aC_exit ?_
      | refine aC_ret ?_
      | refine thenQ_normal ?_
      | refine blockQ_normal ?_
      | refine thenQ_exit ?_
      | refine blockQ_hit ?_
      | refine aL_nil ?_
      | (apply aL_step; (· exact True.intro); (· simp (disch := first | omega | (simp only [go_sem]; omega)) only [go_sem, get_miss, seval, reduceCtorEq]); (· simp (disch := first | omega | (simp only [go_sem]; omega)) only [go_sem, get_miss, seval, reduceCtorEq] <;> with_reducible rfl); (· simp only [go_sem] <;> with_reducible rfl))
      | (refine aC_condP (by simp (disch := first | omega | (simp only [go_sem]; omega)) only [go_sem, get_miss, seval, reduceCtorEq] <;> with_reducible rfl) ?_ ?_ <;> (intro h; first | (exfalso; omega) | skip))
      | fail)
    all_goals try (first | exact True.intro | exact not_false | omega)
    all_goals try (simp (disch := first | omega | (simp only [go_sem]; omega)) only [go_sem, get_miss, seval, reduceCtorEq] <;> first | exact True.intro | omega)
    · refine ⟨k + 1, by omega, Sub.of_all ?_, by simp, by omega⟩
      simp (disch := first | omega | (simp only [go_sem]; omega)) only [go_sem, get_miss, seval, reduceCtorEq, e1, e2, append_bl1]
      simp
    · have hk2 : k = size := by omega
      subst hk2
      simp (disch := first | omega | (simp only [go_sem]; omega)) only [go_sem, get_miss, seval, reduceCtorEq]
      simp
      omega

end
end Go.Am
