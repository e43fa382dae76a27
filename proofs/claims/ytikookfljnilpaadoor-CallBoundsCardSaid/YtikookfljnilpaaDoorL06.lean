/- Parts of texts, numerals as texts: strings.Split, strconv.ParseUint (the shelf's), plain laws. -/
import Derived.Test.YtikookfljnilpaaDoorL02
import Derived.Test.YtikookfljnilpaaDoorL04
import Derived.Test.YtikookfljnilpaaDoorTrydSq
import Derived.Lib.SplitLaws
import Derived.Lib.ParseIntBCases
import Derived.Lib.CountLaws
import Derived.Lib.CutLaws
section
set_option linter.unusedVariables false
set_option linter.unusedSimpArgs false
namespace Go.Am
open Go Go.Proofs
set_option linter.unusedSimpArgs false
set_option linter.unusedVariables false
set_option maxHeartbeats 8000000
set_option maxRecDepth 100000
section
attribute [local irreducible] aC aL thenQ blockQ scopeQ ALoop AWp


theorem grown_bytes (w : World) (e : TypeId) (s : ByteArray) : w.grownBy (Lib.bytesWorld w e s) none := by
  unfold Lib.bytesWorld World.freeze
  rw [if_neg (by decide)]
  refine ⟨rfl, rfl, rfl, ?_, fun k hk _ => ?_⟩
  · show _ ≤ (Array.modify (w.heap.push _) _ _).size
    rw [Array.size_modify, Array.size_push]
    omega
  · show (Array.modify (w.heap.push _) w.heap.size _)[k]? = _
    rw [Array.getElem?_modify, if_neg (by omega), Array.getElem?_push_lt hk, Array.getElem?_eq_getElem hk]


/-- A text's number, if it has one. -/
def puP (s : List UInt8) : Option Nat := match Lib.parseUintB 64 s with
  | .ok v => some v
  | _ => none

theorem a_parseU (s : List UInt8) (hs : s.length ≤ 1048576) : (∃ v, puP s = some v ∧ APure cx 64 [.str s, .int .i64 10, .int .i64 64] (.tup [.int .u64 (v : Nat), .nilifc])) ∨
    (puP s = none ∧ ∃ n t, APure cx 64 [.str s, .int .i64 10, .int .i64 64] (.tup [.int .u64 n, .ifc t .any])) := by
  have hz : (⟨s.toArray⟩ : ByteArray).size = s.length := rfl
  have hcall : ∃ fn, cx.P.funcs[64]? = some fn ∧ fn.body.isSome = true ∧ (fn.name == "runtime.NumGoroutine") = false := callable_of Tryd.func64 (by kernel_rfl) (by kernel_rfl)
  rcases hh : Lib.parseUintB 64 s with v | _ | _
  · refine .inl ⟨v, by unfold puP; rw [hh], apure_shelf (vs := [.string ⟨s.toArray⟩, .int .i64 10, .int .i64 64]) hcall rfl fun w im0 hG => ?_⟩
    refine (Tryd.strconv_ParseUint_10_at64_ok ⟨s.toArray⟩ (by omega) v hh w).mono fun e w' h => ?_
    obtain ⟨rfl, h⟩ := h
    refine ⟨_, rfl, ?_, R.tup2 (.int _ _) .nilifc⟩
    rcases h with rfl | rfl
    · exact grown_same _
    · exact grown_bytes _ _ _
  · refine .inr ⟨by unfold puP; rw [hh], 0, 131, apure_shelf (vs := [.string ⟨s.toArray⟩, .int .i64 10, .int .i64 64]) hcall rfl fun w im0 hG => ?_⟩
    · obtain ⟨x, hx1, hx2⟩ := GL.iface (E := env0 w im0) (hG 2 _ rfl)
      refine (Any.strconv_ParseUint_10_at64_syntax Tryd.laysPu14 ⟨s.toArray⟩ (by omega) hh x w hx1 hx2).mono fun e w' h => ?_
      obtain ⟨N, rfl, h1, h2, h3⟩ := h
      exact ⟨_, rfl, grown_below h3, R.tup2 (.int _ _) (.ifc _ _ _ (.any _))⟩
  · refine .inr ⟨by unfold puP; rw [hh], 18446744073709551615, 131, apure_shelf (vs := [.string ⟨s.toArray⟩, .int .i64 10, .int .i64 64]) hcall rfl fun w im0 hG => ?_⟩
    · obtain ⟨x, hx1, hx2⟩ := GL.iface (E := env0 w im0) (hG 3 _ rfl)
      refine (Any.strconv_ParseUint_10_at64_range Tryd.laysPu14 ⟨s.toArray⟩ (by omega) hh x w hx1 hx2).mono fun e w' h => ?_
      obtain ⟨N, rfl, h1, h2, h3⟩ := h
      exact ⟨_, rfl, grown_below h3, R.tup2 (.int _ _) (.ifc _ _ _ (.any _))⟩

/-- A text's parts, between separators. -/
def parts (s p : List UInt8) : List (List UInt8) := (Lib.splitB ⟨p.toArray⟩ 0 (Lib.countB ⟨s.toArray⟩ ⟨p.toArray⟩) ⟨s.toArray⟩).map fun b => b.data.toList

theorem a_split (s p : List UInt8) (hs : s.length ≤ 4294967280) (hp : 1 ≤ p.length) : APure cx 63 [.str s, .str p] (.sl 1 false ((parts s p).map .str) .full) :=
  apure_shelf (vs := [.string ⟨s.toArray⟩, .string ⟨p.toArray⟩]) (callable_of Tryd.func63 (by kernel_rfl) (by kernel_rfl)) rfl fun w im0 hG => by
    obtain ⟨m, hm⟩ := GL.int (E := env0 w im0) (hG 0 _ rfl)
    have hz : (⟨s.toArray⟩ : ByteArray).size = s.length := rfl
    have hzp : (⟨p.toArray⟩ : ByteArray).size = p.length := rfl
    refine (Tryd.strings_Split ⟨s.toArray⟩ ⟨p.toArray⟩ m w (by omega) hm (by omega)).mono fun e w' h => ?_
    obtain ⟨rfl, rfl⟩ := h
    have hlen := Lib.splitB_all ⟨p.toArray⟩ (by omega) 0 _ ⟨s.toArray⟩ rfl
    have hle := Lib.countB_le ⟨p.toArray⟩ (by omega) _ ⟨s.toArray⟩ (Nat.le_refl _)
    have hml : maxLen = 9223372036854775807 := rfl
    refine ⟨_, rfl, grown_alloc _ _, ?_⟩
    unfold parts
    generalize Lib.splitB ⟨p.toArray⟩ 0 (Lib.countB ⟨s.toArray⟩ ⟨p.toArray⟩) ⟨s.toArray⟩ = l at hlen ⊢
    rw [← hlen]
    have := r_sl_alloc (w := w) (im0 := im0) (t := 9) (xs := (l.map fun b => b.data.toList).map .str) (vs := l.map Value.string) (by simp) (by simp; omega) (by simp [AVal.cells]) (fun j h h' => by
      simp only [List.getElem_map]
      exact ⟨.str _ _ rfl, rfl⟩)
    simpa using this
/-! ### Parts -/
theorem index_miss1 (c : UInt8) : ∀ l : List UInt8, c ∉ l → Lib.index l [c] = -1
  | [], _ => rfl
  | b :: l, h => by
    have hb : ¬ c = b := fun e => h (by simp [e])
    rw [Lib.index]
    simp only [List.isPrefixOf, Bool.and_true, beq_iff_eq, hb, if_false, index_miss1 c l (fun k => h (List.mem_cons_of_mem _ k)), if_true]
theorem index_hit1 (c : UInt8) : ∀ x y : List UInt8, c ∉ x → Lib.index (x ++ c :: y) [c] = (x.length : Int)
  | [], y, _ => by
    rw [List.nil_append, Lib.index]
    simp [List.isPrefixOf]
  | b :: x, y, h => by
    have hb : ¬ c = b := fun e => h (by simp [e])
    have ih := index_hit1 c x y (fun k => h (List.mem_cons_of_mem _ k))
    rw [List.cons_append, Lib.index]
    simp only [List.isPrefixOf, Bool.and_true, beq_iff_eq, hb, if_false, ih]
    rw [if_neg (by omega)]
    simp

theorem ext_list (l : List UInt8) (a b : Nat) : (⟨l.toArray⟩ : ByteArray).extract a b = ⟨((l.drop a).take (b - a)).toArray⟩ := by
  apply ByteArray.ext
  rw [ByteArray.data_extract, List.extract_toArray]

theorem parts_miss (c : UInt8) (x : List UInt8) (h : c ∉ x) : parts x [c] = [x] := by
  have hi : Lib.indexB ⟨x.toArray⟩ ⟨[c].toArray⟩ = -1 := index_miss1 c x h
  unfold parts
  rw [Lib.countB_miss _ _ hi]
  rfl
theorem parts_hit (c : UInt8) (x y : List UInt8) (h : c ∉ x) : parts (x ++ c :: y) [c] = x :: parts y [c] := by
  have hi : Lib.indexB ⟨(x ++ c :: y).toArray⟩ ⟨[c].toArray⟩ = ((x.length : Nat) : Int) := index_hit1 c x y h
  have hs1 : (⟨[c].toArray⟩ : ByteArray).size = 1 := rfl
  have hs2 : (⟨(x ++ c :: y).toArray⟩ : ByteArray).size = x.length + (y.length + 1) := by show (x ++ c :: y).length = _; simp
  have ey : (⟨(x ++ c :: y).toArray⟩ : ByteArray).extract (x.length + (⟨[c].toArray⟩ : ByteArray).size) (⟨(x ++ c :: y).toArray⟩ : ByteArray).size = ⟨y.toArray⟩ := by
    rw [ext_list, hs1, hs2]
    congr 2
    rw [List.drop_append, List.drop_eq_nil_of_le (by omega), List.nil_append]
    simp
    rw [show x.length + (y.length + 1) - (x.length + 1) = y.length by omega]
    exact List.take_length
  unfold parts
  rw [Lib.countB_hit _ _ x.length (by rw [hs1]; exact Nat.le_refl _) hi, ey, Nat.add_comm, Lib.splitB_hit _ _ _ _ _ hi, ey, ext_list]
  simp

theorem splitB_sizes (sep : ByteArray) : ∀ (k : Nat) (s x : ByteArray), x ∈ Lib.splitB sep 0 k s → x.size ≤ s.size
  | 0, s, x, h => by
    rw [Lib.splitB_zero] at h
    rw [List.mem_singleton.1 h]
    exact Nat.le_refl _
  | k + 1, s, x, h => by
    unfold Lib.splitB at h
    split at h
    · rw [List.mem_singleton.1 h]; exact Nat.le_refl _
    · rcases List.mem_cons.1 h with rfl | h
      · rw [ByteArray.size_extract]; omega
      · have := splitB_sizes sep k _ x h
        rw [ByteArray.size_extract] at this
        omega
theorem parts_sizes (s p : List UInt8) : ∀ x ∈ parts s p, x.length ≤ s.length := by
  intro x hx
  unfold parts at hx
  obtain ⟨y, hy, rfl⟩ := List.mem_map.1 hx
  exact splitB_sizes _ _ _ _ hy
theorem parts_len (s : List UInt8) (p : List UInt8) (hp : 1 ≤ p.length) : ∃ w0 wr, parts s p = w0 :: wr ∧ wr.length ≤ s.length := by
  have h1 := Lib.splitB_all ⟨p.toArray⟩ hp 0 _ ⟨s.toArray⟩ rfl
  have h2 := Lib.countB_le ⟨p.toArray⟩ hp _ ⟨s.toArray⟩ (Nat.le_refl _)
  have hz : (⟨s.toArray⟩ : ByteArray).size = s.length := rfl
  have h3 : (parts s p).length = Lib.countB ⟨s.toArray⟩ ⟨p.toArray⟩ + 1 := by unfold parts; simpa using h1
  cases hq : parts s p with
  | nil => rw [hq] at h3; simp at h3
  | cons w0 wr =>
    rw [hq] at h3
    refine ⟨w0, wr, rfl, ?_⟩
    simp only [List.length_cons] at h3
    omega

theorem nDigits_le : ∀ (k u : Nat), u < 10 ^ (k + 1) → Lib.nDigits u ≤ k + 1
  | 0, u, h => by rw [Lib.nDigits_small (by simpa using h)]; exact Nat.le_refl _
  | k + 1, u, h => by
    by_cases h1 : u < 10
    · rw [Lib.nDigits_small h1]; omega
    · rw [Lib.nDigits_big h1]
      have := nDigits_le k (u / 10) (by rw [Nat.pow_succ] at h; omega)
      omega

theorem dec_all : ∀ (u : Nat), (∀ b ∈ Lib.decDigits u, 48 ≤ b.toNat ∧ b.toNat ≤ 57) ∧ Lib.decDigits u ≠ [] := by
  intro u
  induction u using Nat.strongRecOn with
  | _ u ih =>
    have one : ∀ m : Nat, m < 10 → 48 ≤ (UInt8.ofNat (48 + m)).toNat ∧ (UInt8.ofNat (48 + m)).toNat ≤ 57 := by
      intro m hm
      rw [ofNat_toNat8 _ (by omega)]
      omega
    rw [Lib.decDigits]
    split
    · next h =>
      refine ⟨fun b hb => ?_, by simp⟩
      rw [List.mem_singleton.1 hb]
      exact one u h
    · next h =>
      refine ⟨fun b hb => ?_, by simp⟩
      rcases List.mem_append.1 hb with hb | hb
      · exact (ih (u / 10) (by omega)).1 b hb
      · rw [List.mem_singleton.1 hb]
        exact one (u % 10) (by omega)

theorem parseM_append (M : Nat) : ∀ (l r : List UInt8) (acc a : Nat), Lib.parseUintM M acc l = .ok a → Lib.parseUintM M acc (l ++ r) = Lib.parseUintM M a r
  | [], r, acc, a, h => by
    simp only [Lib.parseUintM] at h
    injection h with h
    rw [h, List.nil_append]
  | c :: l, r, acc, a, h => by
    rw [List.cons_append]
    simp only [Lib.parseUintM] at h ⊢
    split at h
    · next h1 =>
      rw [if_pos h1]
      split at h
      · cases h
      · next h2 =>
        rw [if_neg h2]
        split at h
        · cases h
        · next h3 =>
          rw [if_neg h3]
          exact parseM_append M l r _ a h
    · cases h

theorem parse_one (M acc m : Nat) (hm : m < 10) (ha : acc < 1844674407370955162) (h : acc * 10 + m ≤ M) : Lib.parseUintM M acc [UInt8.ofNat (48 + m)] = .ok (acc * 10 + m) := by
  have e : (UInt8.ofNat (48 + m)).toNat = 48 + m := ofNat_toNat8 _ (by omega)
  simp only [Lib.parseUintM, e]
  rw [if_pos (by omega), if_neg (by omega), if_neg (by omega)]
  congr 1
  omega


theorem parse_dec64 : ∀ u : Nat, u ≤ 18446744073709551615 → Lib.parseUintM 18446744073709551615 0 (Lib.decDigits u) = .ok u := by
  intro u
  induction u using Nat.strongRecOn with
  | _ u ih =>
    intro hu
    rw [Lib.decDigits]
    split
    · next h =>
      have := parse_one 18446744073709551615 0 u h (by omega) (by omega)
      simpa using this
    · next h =>
      rw [parseM_append 18446744073709551615 _ _ 0 (u / 10) (ih (u / 10) (by omega) (by omega)), parse_one 18446744073709551615 (u / 10) (u % 10) (by omega) (by omega) (by omega)]
      congr 1
      omega
theorem puP_dec (u : Nat) (hu : u < 18446744073709551616) : puP (Lib.decDigits u) = some u := by
  have : Lib.parseUintB 64 (Lib.decDigits u) = .ok u := by
    unfold Lib.parseUintB
    rw [if_neg (dec_all u).2]
    exact parse_dec64 u (by omega)
  unfold puP
  rw [this]
theorem parseM_lt (M : Nat) : ∀ (l : List UInt8) (acc v : Nat), acc ≤ M → Lib.parseUintM M acc l = .ok v → v ≤ M
  | [], acc, v, ha, h => by
    simp only [Lib.parseUintM] at h
    injection h with h
    omega
  | c :: r, acc, v, ha, h => by
    simp only [Lib.parseUintM] at h
    split at h
    · split at h
      · cases h
      · split at h
        · cases h
        · exact parseM_lt M r _ v (by omega) h
    · cases h
theorem puP_lt {s : List UInt8} {v : Nat} (h : puP s = some v) : v < 18446744073709551616 := by
  unfold puP at h
  split at h
  · next x hx =>
    injection h with h
    subst h
    unfold Lib.parseUintB at hx
    split at hx
    · cases hx
    · have := parseM_lt (2 ^ 64 - 1) _ 0 _ (Nat.zero_le _) hx
      have e : (2 : Nat) ^ 64 - 1 = 18446744073709551615 := by decide
      omega
  · cases h
theorem dec_no (u : Nat) (c : UInt8) (hc : c.toNat < 48 ∨ 57 < c.toNat) : c ∉ Lib.decDigits u := fun h => by
  have := (dec_all u).1 c h
  omega
theorem dec_len (u : Nat) (h : u < 18446744073709551616) : (Lib.decDigits u).length ≤ 20 := by
  rw [Lib.decDigits_length]
  exact nDigits_le 19 u (by show u < 100000000000000000000; omega)
theorem bels_str (n : Nat) (ws : List (List UInt8)) : bels n (ws.map AVal.str) = true :=
  bels_iff.2 (by intro x hx; obtain ⟨y, _, rfl⟩ := List.mem_map.1 hx; rfl)

end
end Go.Am
end
section
set_option linter.unusedVariables false
set_option linter.unusedSimpArgs false
namespace Go.Am
open Go Go.Proofs
set_option linter.unusedSimpArgs false
set_option linter.unusedVariables false
set_option maxHeartbeats 8000000
set_option maxRecDepth 100000
section
attribute [local irreducible] aC aL thenQ blockQ scopeQ ALoop AWp


/-- A call's text. -/
def ctxK (op : Int) (xs : List Nat) (k : Nat) : List UInt8 := cnm op ++ (xs.take k).flatMap fun x => 32 :: Lib.decDigits x
def ctx (op : Int) (xs : List Nat) : List UInt8 := ctxK op xs (car op)
theorem ctx_eq (op : Int) (xs : List Nat) : ctx op xs = ctxK op xs (car op) := rfl
theorem cnm_le (op : Int) : (cnm op).length ≤ 10 := by
  by_cases h : 1 ≤ op ∧ op ≤ 21
  · exact (cnm_in h).2.1
  · rw [cnm_out h]; simp
theorem tail_len : ∀ {xs : List Nat}, (∀ x ∈ xs, x < 18446744073709551616) → (xs.flatMap fun x => 32 :: Lib.decDigits x).length ≤ 21 * xs.length
  | [], _ => by simp
  | x :: xs, h => by
    have ih := tail_len fun y hy => h y (List.mem_cons_of_mem _ hy)
    have := dec_len x (h x (List.mem_cons_self ..))
    simp only [List.flatMap_cons, List.length_append, List.length_cons]
    omega
theorem ctx_len {op : Int} {xs : List Nat} (hw : ∀ x ∈ xs, x < 18446744073709551616) : (ctx op xs).length ≤ 115 := by
  have h1 := cnm_le op
  have h2 := tail_len (xs := xs.take (car op)) fun x h => hw x (List.mem_of_mem_take h)
  have h3 := car_le op
  have h4 : (xs.take (car op)).length ≤ car op := by rw [List.length_take]; omega
  unfold ctx ctxK
  rw [List.length_append]
  omega

theorem call_text0 (op : Int) (xs : List Nat) (hx : xs.length = 6) (hw : ∀ x ∈ xs, x < 18446744073709551616) : ACall cx 44 [.agg (.int .i64 op :: wl xs), .map 0] [.mpx TABLE 21] (.str (ctx op xs)) [.mpx TABLE 21] := by
  have hl := look_tbl (fun _ => false) (fun _ => none) (S := [.mpx TABLE 21, .cells (.int .i64 op :: wl xs) 32]) (b := 0) op rfl
  have hc := car_le op
  have hcn := cnm_le op
  have hml : maxLen = 9223372036854775807 := rfl
  have key : ACall cx 44 [.agg (.int .i64 op :: wl xs), .map 0] [.mpx TABLE 21] (.str (ctx op xs)) [.mpx TABLE 21, .cells (.int .i64 op :: wl xs) 32, .cells [.str (cnm op), .int .i64 (car op : Nat)] 65] := by
    rw [ctx_eq]
    have hk1 := tbl_keys op
    have hk2 := tbl_one op
    unfold ctxK
    generalize cnm op = W at *
    generalize car op = K at *
    refine acall_fn cxOk Tryd.func44 (by kernel_rfl) (fun _ => false) (fun _ => none) (by kernel_rfl) (Nat.le_of_ble_eq_true (by kernel_rfl)) ?_
    dsimp only [LB, Tryd.f44, lite, nextOf, Option.isNone, Bool.not_true, Bool.not_false, Bool.and_true, Bool.true_and, Bool.false_and, Bool.and_self, Bool.false_eq_true, if_false, if_true, ↓reduceIte, liteO, List.map, Option.map, frame0, List.zipIdx, Nat.reduceAdd]
    try simp only [List.getElem?_toArray, List.getElem?_cons_succ, List.getElem?_cons_zero, Option.bind_some]
    repeat' (first
      | refine aC_seq ?_
      | refine aC_reg rfl ?_
      | refine aC_block ?_
      | refine aC_loop ?_
      | refine thenQ_normal ?_
      | refine aL_nil ?_
      | (apply aL_step; (· exact True.intro); (· simp (disch := first | omega | (simp only [go_sem]; omega)) only [go_sem, get_miss, seval, reduceCtorEq, Nat.mul_one]); (· simp (disch := first | omega | (simp only [go_sem]; omega)) only [go_sem, get_miss, seval, reduceCtorEq, Nat.mul_one] <;> with_reducible rfl); (· simp only [go_sem] <;> with_reducible rfl))
      | (apply aL_lookX (hl); (case hg => (simp (disch := first | omega | (simp only [go_sem]; omega)) only [go_sem, get_miss, seval, reduceCtorEq, Nat.mul_one])); (case hm => (simp (disch := first | omega | (simp only [go_sem]; omega)) only [go_sem, get_miss, seval, reduceCtorEq, Nat.mul_one] <;> with_reducible rfl)); (case hk => (simp (disch := first | omega | (simp only [go_sem]; omega)) only [go_sem, get_miss, seval, reduceCtorEq, Nat.mul_one] <;> with_reducible rfl)); (case hf => (simp only [go_sem] <;> with_reducible rfl)))
      | fail)
    · refine loop_rule (cxOk.wp _ _) (σ := Nat) (fun k => [(20, .int .i64 k), (19, .int .i64 K), (18, .view 1 1 K 6), (6, .str (W ++ (xs.take k).flatMap fun x => 32 :: Lib.decDigits x))])
        (fun _ => [.mpx TABLE 21, .cells (.int .i64 op :: wl xs) 32, .cells [.str W, .int .i64 (K : Nat)] 65]) (fun k => K - k) (fun k => k ≤ K) 0 (GStep.refl _ _) ⟨Nat.zero_le _, Sub.of_all (by simp [Fr.get]), rfl⟩ ?_
      intro k hk
      have htl := tail_len (fun x h => hw x (List.mem_of_mem_take h)) (xs := xs.take k)
      have htk : (xs.take k).length ≤ 6 := by rw [List.length_take]; omega
      by_cases hlt : k < K
      · have hkx : k < xs.length := by omega
        have hxw := hw (xs.getD k 0) (by simp [List.getD, hkx])
        have hf := a_fmt (xs.getD k 0) hxw
        have hfl := dec_len (xs.getD k 0) hxw
        have ht : (W ++ (xs.take (k + 1)).flatMap fun x => 32 :: Lib.decDigits x) = (W ++ (xs.take k).flatMap fun x => 32 :: Lib.decDigits x) ++ ([32] ++ Lib.decDigits (xs.getD k 0)) := by
          rw [List.take_succ_eq_append_getElem hkx, List.flatMap_append, ← List.append_assoc]
          simp [List.getD, hkx]
        have hXl : (W ++ (xs.take k).flatMap fun x => 32 :: Lib.decDigits x).length ≤ 200 := by rw [List.length_append]; omega
        generalize (W ++ (xs.take k).flatMap fun x => 32 :: Lib.decDigits x) = X at *
        generalize Lib.decDigits (xs.getD k 0) = D at *
        repeat' (first
          | refine aC_seq ?_
          | refine aC_reg rfl ?_
          | refine aC_block ?_
          | refine aC_skip ?_
          | refine thenQ_normal ?_
          | refine blockQ_normal ?_
          | refine aL_nil ?_
          | (apply aL_step; (· exact True.intro); (· simp (disch := first | omega | (simp only [go_sem]; omega)) only [go_sem, get_miss, seval, reduceCtorEq, Nat.mul_one]); (· simp (disch := first | omega | (simp only [go_sem]; omega)) only [go_sem, get_miss, seval, reduceCtorEq, Nat.mul_one] <;> with_reducible rfl); (· simp only [go_sem] <;> with_reducible rfl))
          | (refine aC_condP (by simp (disch := first | omega | (simp only [go_sem]; omega)) only [go_sem, get_miss, seval, reduceCtorEq, Nat.mul_one] <;> with_reducible rfl) ?_ ?_ <;> (intro h; first | (exfalso; omega) | skip))
          | (apply aL_pure cxG (hf); (case hg => (simp (disch := first | omega | (simp only [go_sem]; omega)) only [go_sem, get_miss, seval, reduceCtorEq, Nat.mul_one])); (case hx => (simp (disch := first | omega | (simp only [go_sem]; omega)) only [go_sem, get_miss, seval, reduceCtorEq, Nat.mul_one] <;> with_reducible rfl)); (case ha => (simp (disch := first | omega | (simp only [go_sem]; omega)) only [go_sem, get_miss, seval, reduceCtorEq, Nat.mul_one] <;> with_reducible rfl)); (case he => (simp only [go_sem] <;> with_reducible rfl)); (case hcl => (simp)); (case hf => (simp only [go_sem] <;> with_reducible rfl)))
          | fail)
        all_goals try (first | exact True.intro | exact not_false | omega)
        all_goals try (simp (disch := first | omega | (simp only [go_sem]; omega)) only [go_sem, get_miss, seval, reduceCtorEq] <;> first | exact True.intro | omega)
        all_goals exact ⟨k + 1, by omega, Sub.of_all (by simp [Fr.get, ht]), rfl, by omega⟩
      · have hk' : k = K := by omega
        subst hk'
        clear htl
        generalize (W ++ (xs.take k).flatMap fun x => 32 :: Lib.decDigits x) = X at *
        repeat' (first
          | refine aC_seq ?_
          | refine aC_reg rfl ?_
          | refine aC_exit ?_
          | refine aC_ret ?_
          | refine thenQ_normal ?_
          | refine thenQ_exit ?_
          | refine blockQ_hit ?_
          | refine aL_nil ?_
          | (apply aL_step; (· exact True.intro); (· simp (disch := first | omega | (simp only [go_sem]; omega)) only [go_sem, get_miss, seval, reduceCtorEq]); (· simp (disch := first | omega | (simp only [go_sem]; omega)) only [go_sem, get_miss, seval, reduceCtorEq] <;> with_reducible rfl); (· simp only [go_sem] <;> with_reducible rfl))
          | (refine aC_condP (by simp (disch := first | omega | (simp only [go_sem]; omega)) only [go_sem, get_miss, seval, reduceCtorEq] <;> with_reducible rfl) ?_ ?_ <;> (intro h; first | (exfalso; omega) | skip))
          | fail)
        all_goals try (first | exact True.intro | exact not_false | omega)
        all_goals try (simp (disch := first | omega | (simp only [go_sem]; omega)) only [go_sem, get_miss, seval, reduceCtorEq] <;> first | exact True.intro | omega)
        all_goals try (simp (disch := first | omega | (simp only [go_sem]; omega)) only [go_sem, get_miss, seval, reduceCtorEq])
        all_goals try simp
    all_goals first | trivial | exact ⟨hk1, hk2⟩ | (simp (disch := first | omega | (simp only [go_sem]; omega)) only [go_sem, get_miss, seval, reduceCtorEq, Nat.mul_one]; omega) | omega
  exact ACall.drop cxG key (n := 1) (by simp) rfl (by kernel_rfl)
theorem call_textF (c1 c2 c3 c4 : ABox) (op : Int) (xs : List Nat) (hx : xs.length = 6) (hw : ∀ x ∈ xs, x < 18446744073709551616) (hb : belS 5 [.frz (some TABLE), c1, c2, c3, c4] = true) : ACall cx 44 [.agg (.int .i64 op :: wl xs), .map 0] [.frz (some TABLE), c1, c2, c3, c4] (.str (ctx op xs)) [.frz (some TABLE), c1, c2, c3, c4] := by
  have hl := look_tbl (fun _ => false) (fun _ => none) (S := [.frz (some TABLE), c1, c2, c3, c4, .cells (.int .i64 op :: wl xs) 32]) (b := 0) op rfl
  have hc := car_le op
  have hcn := cnm_le op
  have hml : maxLen = 9223372036854775807 := rfl
  have key : ACall cx 44 [.agg (.int .i64 op :: wl xs), .map 0] [.frz (some TABLE), c1, c2, c3, c4] (.str (ctx op xs)) [.frz (some TABLE), c1, c2, c3, c4, .cells (.int .i64 op :: wl xs) 32, .cells [.str (cnm op), .int .i64 (car op : Nat)] 65] := by
    rw [ctx_eq]
    have hk1 := tbl_keys op
    have hk2 := tbl_one op
    unfold ctxK
    generalize cnm op = W at *
    generalize car op = K at *
    refine acall_fn cxOk Tryd.func44 (by kernel_rfl) (fun _ => false) (fun _ => none) (by kernel_rfl) (Nat.le_of_ble_eq_true (by kernel_rfl)) ?_
    dsimp only [LB, Tryd.f44, lite, nextOf, Option.isNone, Bool.not_true, Bool.not_false, Bool.and_true, Bool.true_and, Bool.false_and, Bool.and_self, Bool.false_eq_true, if_false, if_true, ↓reduceIte, liteO, List.map, Option.map, frame0, List.zipIdx, Nat.reduceAdd]
    try simp only [List.getElem?_toArray, List.getElem?_cons_succ, List.getElem?_cons_zero, Option.bind_some]
    repeat' (first
      | refine aC_seq ?_
      | refine aC_reg rfl ?_
      | refine aC_block ?_
      | refine aC_loop ?_
      | refine thenQ_normal ?_
      | refine aL_nil ?_
      | (apply aL_step; (· exact True.intro); (· simp (disch := first | omega | (simp only [go_sem]; omega)) only [go_sem, get_miss, seval, reduceCtorEq, Nat.mul_one]); (· simp (disch := first | omega | (simp only [go_sem]; omega)) only [go_sem, get_miss, seval, reduceCtorEq, Nat.mul_one] <;> with_reducible rfl); (· simp only [go_sem] <;> with_reducible rfl))
      | (apply aL_lookX (hl); (case hg => (simp (disch := first | omega | (simp only [go_sem]; omega)) only [go_sem, get_miss, seval, reduceCtorEq, Nat.mul_one])); (case hm => (simp (disch := first | omega | (simp only [go_sem]; omega)) only [go_sem, get_miss, seval, reduceCtorEq, Nat.mul_one] <;> with_reducible rfl)); (case hk => (simp (disch := first | omega | (simp only [go_sem]; omega)) only [go_sem, get_miss, seval, reduceCtorEq, Nat.mul_one] <;> with_reducible rfl)); (case hf => (simp only [go_sem] <;> with_reducible rfl)))
      | fail)
    · refine loop_rule (cxOk.wp _ _) (σ := Nat) (fun k => [(20, .int .i64 k), (19, .int .i64 K), (18, .view 5 1 K 6), (6, .str (W ++ (xs.take k).flatMap fun x => 32 :: Lib.decDigits x))])
        (fun _ => [.frz (some TABLE), c1, c2, c3, c4, .cells (.int .i64 op :: wl xs) 32, .cells [.str W, .int .i64 (K : Nat)] 65]) (fun k => K - k) (fun k => k ≤ K) 0 (GStep.refl _ _) ⟨Nat.zero_le _, Sub.of_all (by simp [Fr.get]), rfl⟩ ?_
      intro k hk
      have htl := tail_len (fun x h => hw x (List.mem_of_mem_take h)) (xs := xs.take k)
      have htk : (xs.take k).length ≤ 6 := by rw [List.length_take]; omega
      by_cases hlt : k < K
      · have hkx : k < xs.length := by omega
        have hxw := hw (xs.getD k 0) (by simp [List.getD, hkx])
        have hf := a_fmt (xs.getD k 0) hxw
        have hfl := dec_len (xs.getD k 0) hxw
        have ht : (W ++ (xs.take (k + 1)).flatMap fun x => 32 :: Lib.decDigits x) = (W ++ (xs.take k).flatMap fun x => 32 :: Lib.decDigits x) ++ ([32] ++ Lib.decDigits (xs.getD k 0)) := by
          rw [List.take_succ_eq_append_getElem hkx, List.flatMap_append, ← List.append_assoc]
          simp [List.getD, hkx]
        have hXl : (W ++ (xs.take k).flatMap fun x => 32 :: Lib.decDigits x).length ≤ 200 := by rw [List.length_append]; omega
        generalize (W ++ (xs.take k).flatMap fun x => 32 :: Lib.decDigits x) = X at *
        generalize Lib.decDigits (xs.getD k 0) = D at *
        repeat' (first
          | refine aC_seq ?_
          | refine aC_reg rfl ?_
          | refine aC_block ?_
          | refine aC_skip ?_
          | refine thenQ_normal ?_
          | refine blockQ_normal ?_
          | refine aL_nil ?_
          | (apply aL_step; (· exact True.intro); (· simp (disch := first | omega | (simp only [go_sem]; omega)) only [go_sem, get_miss, seval, reduceCtorEq, Nat.mul_one]); (· simp (disch := first | omega | (simp only [go_sem]; omega)) only [go_sem, get_miss, seval, reduceCtorEq, Nat.mul_one] <;> with_reducible rfl); (· simp only [go_sem] <;> with_reducible rfl))
          | (refine aC_condP (by simp (disch := first | omega | (simp only [go_sem]; omega)) only [go_sem, get_miss, seval, reduceCtorEq, Nat.mul_one] <;> with_reducible rfl) ?_ ?_ <;> (intro h; first | (exfalso; omega) | skip))
          | (apply aL_pure cxG (hf); (case hg => (simp (disch := first | omega | (simp only [go_sem]; omega)) only [go_sem, get_miss, seval, reduceCtorEq, Nat.mul_one])); (case hx => (simp (disch := first | omega | (simp only [go_sem]; omega)) only [go_sem, get_miss, seval, reduceCtorEq, Nat.mul_one] <;> with_reducible rfl)); (case ha => (simp (disch := first | omega | (simp only [go_sem]; omega)) only [go_sem, get_miss, seval, reduceCtorEq, Nat.mul_one] <;> with_reducible rfl)); (case he => (simp only [go_sem] <;> with_reducible rfl)); (case hcl => (simp)); (case hf => (simp only [go_sem] <;> with_reducible rfl)))
          | fail)
        all_goals try (first | exact True.intro | exact not_false | omega)
        all_goals try (simp (disch := first | omega | (simp only [go_sem]; omega)) only [go_sem, get_miss, seval, reduceCtorEq] <;> first | exact True.intro | omega)
        all_goals exact ⟨k + 1, by omega, Sub.of_all (by simp [Fr.get, ht]), rfl, by omega⟩
      · have hk' : k = K := by omega
        subst hk'
        clear htl
        generalize (W ++ (xs.take k).flatMap fun x => 32 :: Lib.decDigits x) = X at *
        repeat' (first
          | refine aC_seq ?_
          | refine aC_reg rfl ?_
          | refine aC_exit ?_
          | refine aC_ret ?_
          | refine thenQ_normal ?_
          | refine thenQ_exit ?_
          | refine blockQ_hit ?_
          | refine aL_nil ?_
          | (apply aL_step; (· exact True.intro); (· simp (disch := first | omega | (simp only [go_sem]; omega)) only [go_sem, get_miss, seval, reduceCtorEq]); (· simp (disch := first | omega | (simp only [go_sem]; omega)) only [go_sem, get_miss, seval, reduceCtorEq] <;> with_reducible rfl); (· simp only [go_sem] <;> with_reducible rfl))
          | (refine aC_condP (by simp (disch := first | omega | (simp only [go_sem]; omega)) only [go_sem, get_miss, seval, reduceCtorEq] <;> with_reducible rfl) ?_ ?_ <;> (intro h; first | (exfalso; omega) | skip))
          | fail)
        all_goals try (first | exact True.intro | exact not_false | omega)
        all_goals try (simp (disch := first | omega | (simp only [go_sem]; omega)) only [go_sem, get_miss, seval, reduceCtorEq] <;> first | exact True.intro | omega)
        all_goals try (simp (disch := first | omega | (simp only [go_sem]; omega)) only [go_sem, get_miss, seval, reduceCtorEq])
        all_goals try simp
    all_goals first | trivial | exact ⟨hk1, hk2⟩ | (simp (disch := first | omega | (simp only [go_sem]; omega)) only [go_sem, get_miss, seval, reduceCtorEq, Nat.mul_one]; omega) | omega
  exact ACall.drop cxG key (n := 5) (by simp) rfl (hb)

theorem call_text {op : Int} {xs : List Nat} (hx : xs.length = 6) (hw : ∀ x ∈ xs, x < 18446744073709551616) {S : St} {i : Nat} (hS : S[i]? = some (.mpx TABLE 21)) : ACall cx 44 [.agg (.int .i64 op :: wl xs), .map i] S (.str (ctx op xs)) S :=
  ACall.lendX cxG (call_text0 op xs hx hw) (by kernel_rfl) rfl hS rfl fun j h1 h0 => by
    match j, h1 with
    | 0, _ => exact .inl ⟨plain_cv op xs, rfl⟩
    | 1, _ => exact .inr ⟨rfl, rfl⟩

theorem call_Text (op : Int) (xs : List Nat) (hx : xs.length = 6) (hw : ∀ x ∈ xs, x < 18446744073709551616) :
    APure cx 21 [.agg (.int .i64 op :: wl xs)] (if MayC op xs then .tup [.str (ctx op xs), .int .i64 0] else .tup [.str [], .int .i64 2]) := by
  have hm := call_may (op := op) (xs := xs) hx (S := [.cells (.int .i64 op :: wl xs) 32] ++ [.mpx TABLE 21]) (i := 1) rfl
  have ht := call_text (op := op) hx hw (S := [.cells (.int .i64 op :: wl xs) 32] ++ [.mpx TABLE 21]) (i := 1) rfl
  by_cases h : MayC op xs
  case' pos => rw [if_pos h]; rw [decide_eq_true h] at hm
  case' neg => rw [if_neg h]; rw [decide_eq_false h] at hm
  all_goals
  clear h
  generalize ctx op xs = X at *
  refine pure_fn cxOk Tryd.func21 (by kernel_rfl) (fun _ => false) (fun _ => none) (by kernel_rfl) (Nat.le_of_ble_eq_true (by kernel_rfl)) ?_
  dsimp only [LB, Tryd.f21, lite, nextOf, Option.isNone, Bool.not_true, Bool.not_false, Bool.and_true, Bool.true_and, Bool.false_and, Bool.and_self, Bool.false_eq_true, if_false, if_true, ↓reduceIte, liteO, List.map, Option.map, frame0, List.zipIdx, Nat.reduceAdd]
  try simp only [List.getElem?_toArray, List.getElem?_cons_succ, List.getElem?_cons_zero, Option.bind_some]
  repeat' (first
    | refine aC_seq ?_
    | refine aC_reg rfl ?_
    | refine aC_skip ?_
    | refine aC_ret ?_
    | refine thenQ_normal ?_
    | refine thenQ_ret ?_
    | refine aL_nil ?_
    | (apply aL_step; (· exact True.intro); (· simp (disch := first | omega | (simp only [go_sem]; omega)) only [go_sem, get_miss, seval, reduceCtorEq]); (· simp (disch := first | omega | (simp only [go_sem]; omega)) only [go_sem, get_miss, seval, reduceCtorEq] <;> with_reducible rfl); (· simp only [go_sem] <;> with_reducible rfl))
    | (refine aC_condT ?_ ?_; (· simp (disch := first | omega | (simp only [go_sem]; omega)) only [go_sem, get_miss, seval, reduceCtorEq]))
    | (refine aC_condF ?_ ?_; (· simp (disch := first | omega | (simp only [go_sem]; omega)) only [go_sem, get_miss, seval, reduceCtorEq]))
    | (apply aL_acall (call_table _); (case hg => (simp (disch := first | omega | (simp only [go_sem]; omega)) only [go_sem, get_miss, seval, reduceCtorEq])); (case hx => (simp (disch := first | omega | (simp only [go_sem]; omega)) only [go_sem, get_miss, seval, reduceCtorEq] <;> with_reducible rfl)); (case ha => (simp (disch := first | omega | (simp only [go_sem]; omega)) only [go_sem, get_miss, seval, reduceCtorEq] <;> with_reducible rfl)); (case he => (with_reducible rfl)); (case hp => (rfl)); (case hf => (simp only [go_sem] <;> with_reducible rfl)))
    | (apply aL_acall (hm); (case hg => (simp (disch := first | omega | (simp only [go_sem]; omega)) only [go_sem, get_miss, seval, reduceCtorEq])); (case hx => (simp (disch := first | omega | (simp only [go_sem]; omega)) only [go_sem, get_miss, seval, reduceCtorEq] <;> with_reducible rfl)); (case ha => (simp (disch := first | omega | (simp only [go_sem]; omega)) only [go_sem, get_miss, seval, reduceCtorEq] <;> with_reducible rfl)); (case he => (with_reducible rfl)); (case hp => (rfl)); (case hf => (simp only [go_sem] <;> with_reducible rfl)))
    | (apply aL_acall (ht); (case hg => (simp (disch := first | omega | (simp only [go_sem]; omega)) only [go_sem, get_miss, seval, reduceCtorEq])); (case hx => (simp (disch := first | omega | (simp only [go_sem]; omega)) only [go_sem, get_miss, seval, reduceCtorEq] <;> with_reducible rfl)); (case ha => (simp (disch := first | omega | (simp only [go_sem]; omega)) only [go_sem, get_miss, seval, reduceCtorEq] <;> with_reducible rfl)); (case he => (with_reducible rfl)); (case hp => (rfl)); (case hf => (simp only [go_sem] <;> with_reducible rfl)))
    | fail)
  all_goals try (first | exact True.intro | exact not_false | omega)
  all_goals try (simp (disch := first | omega | (simp only [go_sem]; omega)) only [go_sem, get_miss, seval, reduceCtorEq] <;> first | exact True.intro | omega)
  all_goals (clear hm ht)
  all_goals try (simp (disch := first | omega | (simp only [go_sem]; omega)) only [go_sem, get_miss, seval, reduceCtorEq])
  all_goals try simp

end
end Go.Am
end
