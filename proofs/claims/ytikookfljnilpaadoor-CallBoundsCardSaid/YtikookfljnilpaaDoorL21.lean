/- Lists of calls out of texts: call.Unlist, the document's Unlist. -/
import Derived.Test.YtikookfljnilpaaDoorL20
import Derived.Test.YtikookfljnilpaaDoorL12
set_option linter.unusedVariables false
set_option linter.unusedSimpArgs false
namespace Go.Am
open Go Go.Proofs
set_option linter.unusedSimpArgs false
set_option linter.unusedVariables false
set_option maxHeartbeats 8000000
set_option maxRecDepth 100000
section
attribute [local irreducible] aC aL thenQ blockQ scopeQ ALoop AWp

/-- Lines, each with its end, and what is left. -/
def jn (L : List (List UInt8)) (rest : List UInt8) : List UInt8 := (L.flatMap fun x => x ++ [10]) ++ rest
theorem jn_nil (rest : List UInt8) : jn [] rest = rest := rfl
theorem jn_cons (x : List UInt8) (L : List (List UInt8)) (rest : List UInt8) : jn (x :: L) rest = x ++ 10 :: jn L rest := by simp [jn]
theorem jn_sizes : ∀ (L : List (List UInt8)) (rest : List UInt8), (∀ x ∈ L, x.length + 1 ≤ (jn L rest).length) ∧ rest.length ≤ (jn L rest).length ∧ L.length ≤ (jn L rest).length
  | [], rest => ⟨by simp, by simp [jn], by simp⟩
  | y :: L, rest => by
    have ih := jn_sizes L rest
    rw [jn_cons]
    simp only [List.length_append, List.length_cons]
    refine ⟨fun x hx => ?_, by omega, by omega⟩
    rcases List.mem_cons.1 hx with rfl | hx
    · omega
    · have := ih.1 x hx
      omega
theorem jn_count : ∀ (L : List (List UInt8)) (rest : List UInt8), (∀ x ∈ L, (10 : UInt8) ∉ x) → (10 : UInt8) ∉ rest → (jn L rest).count 10 = L.length
  | [], rest, _, h => by rw [jn_nil]; exact List.count_eq_zero.2 h
  | y :: L, rest, h1, h2 => by
    rw [jn_cons, List.count_append, List.count_cons, jn_count L rest (fun x hx => h1 x (List.mem_cons_of_mem _ hx)) h2, List.count_eq_zero.2 (h1 y (List.mem_cons_self ..))]
    simp
theorem jn_snoc : ∀ (L : List (List UInt8)) (rest : List UInt8), L ≠ [] → rest = [] → ∃ t, jn L rest = t ++ [10]
  | [y], rest, _, h => ⟨y, by rw [h, jn_cons, jn_nil]⟩
  | y :: z :: L, rest, _, h => by
    obtain ⟨t, ht⟩ := jn_snoc (z :: L) rest (by simp) h
    exact ⟨y ++ 10 :: t, by rw [jn_cons, ht]; simp⟩
theorem jn_suffix (L : List (List UInt8)) (rest : List UInt8) (h : (10 : UInt8) ∉ rest) : Lib.hasSuffix (jn L rest) [10] = decide (rest = [] ∧ L ≠ []) := by
  have hs : ∀ s : List UInt8, Lib.hasSuffix s [10] = true ↔ ∃ t, s = t ++ [10] := fun s => by
    unfold Lib.hasSuffix
    rw [List.isSuffixOf_iff_suffix]
    exact ⟨fun ⟨t, e⟩ => ⟨t, e.symm⟩, fun ⟨t, e⟩ => ⟨t, e.symm⟩⟩
  by_cases hc : rest = [] ∧ L ≠ []
  · rw [decide_eq_true hc]
    exact (hs _).2 (jn_snoc L rest hc.2 hc.1)
  · rw [decide_eq_false hc]
    rw [Bool.eq_false_iff]
    intro k
    obtain ⟨t, ht⟩ := (hs _).1 k
    by_cases hr : rest = []
    · have hL : L = [] := Decidable.byContradiction fun g => hc ⟨hr, g⟩
      rw [hL, hr, jn_nil] at ht
      simp at ht
    · obtain ⟨a, b, rfl⟩ : ∃ a b, rest = a ++ [b] := by
        rcases List.eq_nil_or_concat rest with e | ⟨a, b, e⟩
        · exact absurd e hr
        · exact ⟨a, b, by rw [e, List.concat_eq_append]⟩
      have : jn L (a ++ [b]) = jn L a ++ [b] := by simp [jn]
      rw [this] at ht
      have := (List.append_inj' ht rfl).2
      apply h
      rw [List.cons.inj this |>.1]
      simp
theorem cut_line (x y : List UInt8) (h : (10 : UInt8) ∉ x) : Lib.cut (x ++ 10 :: y) [10] = (x, y, true) := by
  unfold Lib.cut
  rw [index_hit1 10 x y h, if_pos (by omega), Int.toNat_natCast, List.take_left]
  have : (x ++ 10 :: y).drop (x.length + ([10] : List UInt8).length) = y := by
    rw [List.drop_append, List.drop_eq_nil_of_le (by simp)]
    simp
  rw [this]
theorem cut_rest (x : List UInt8) (h : (10 : UInt8) ∉ x) : Lib.cut x [10] = (x, [], false) := by
  unfold Lib.cut
  rw [index_miss1 10 x h, if_neg (by omega)]

theorem a_cut (s : List UInt8) (hs : s.length ≤ 4294967280) : APure cx 57 [.str s, .str [10]] (.tup [.str (Lib.cut s [10]).1, .str (Lib.cut s [10]).2.1, .bool (Lib.cut s [10]).2.2]) :=
  apure_shelf (vs := [.string ⟨s.toArray⟩, .string ⟨[10].toArray⟩]) (callable_of Tryd.func57 (by kernel_rfl) (by kernel_rfl)) rfl fun w im0 hG => by
    obtain ⟨m, hm⟩ := GL.int (E := env0 w im0) (hG 0 _ rfl)
    have hz : (⟨s.toArray⟩ : ByteArray).size = s.length := rfl
    refine (Tryd.strings_Cut ⟨s.toArray⟩ ⟨[10].toArray⟩ m w (by omega) hm).mono fun e w' h => ?_
    obtain ⟨rfl, n, rfl⟩ := h
    refine ⟨_, rfl, grown_drawn n, .tup _ _ rfl fun j hj => ?_⟩
    match j, hj with
    | 0, _ => exact .str _ _ rfl
    | 1, _ => exact .str _ _ rfl
    | 2, _ => exact .bool _
theorem a_count (s : List UInt8) : APure cx 55 [.str s, .str [10]] (.int .i64 (s.count 10 : Nat)) :=
  apure_shelf (vs := [.string ⟨s.toArray⟩, .string ⟨#[10]⟩]) (callable_of Tryd.func55 (by kernel_rfl) (by kernel_rfl)) rfl fun w im0 hG => by
    refine (Tryd.strings_Count_one ⟨s.toArray⟩ 10 w).mono fun e w' h => ?_
    obtain ⟨rfl, rfl⟩ := h
    exact ⟨_, rfl, grown_same _, .int _ _⟩
theorem a_suffix (s : List UInt8) (hs : s.length ≤ 9223372036854775807) : APure cx 56 [.str s, .str [10]] (.bool (Lib.hasSuffix s [10])) :=
  apure_shelf (vs := [.string ⟨s.toArray⟩, .string ⟨[10].toArray⟩]) (callable_of Tryd.func56 (by kernel_rfl) (by kernel_rfl)) rfl fun w im0 hG => by
    have hz : (⟨s.toArray⟩ : ByteArray).size = s.length := rfl
    refine (Tryd.strings_HasSuffix ⟨s.toArray⟩ ⟨[10].toArray⟩ w (by omega)).mono fun e w' h => ?_
    obtain ⟨rfl, rfl⟩ := h
    exact ⟨_, rfl, grown_same _, .bool _⟩

def IsC (x : List UInt8) : Prop := ∃ op xs, IsCall x op xs
open Classical in
noncomputable def callL (x : List UInt8) : Ca := if h : ∃ c : Ca, IsCall x c.1 c.2 then h.choose else (0, [])
theorem callL_is {x : List UInt8} (h : IsC x) : IsCall x (callL x).1 (callL x).2 := by
  have hx : ∃ c : Ca, IsCall x c.1 c.2 := by obtain ⟨op, xs, h⟩ := h; exact ⟨(op, xs), h⟩
  unfold callL
  rw [dif_pos hx]
  exact hx.choose_spec
def Long (L : List (List UInt8)) (rest : List UInt8) : Prop := 65536 < L.length ∨ (L.length = 65536 ∧ rest ≠ [])
/-- What a text of lines is read as. -/
def UnR (L : List (List UInt8)) (rest : List UInt8) (r : AVal) : Prop :=
  (Long L rest ∧ r = .tup [.sl 1 true [] .any, .int .i64 0, .int .i64 3]) ∨
  (¬ Long L rest ∧ (∀ x ∈ L, IsC x) ∧ rest = [] ∧ r = .tup [.sl 7 (L.map callL).isEmpty (cvs (L.map callL)) .any, .int .i64 0, .int .i64 0]) ∨
  (¬ Long L rest ∧ ∃ k, k ≤ L.length ∧ (∀ x ∈ L.take k, IsC x) ∧ ((∃ h : k < L.length, ¬ IsC L[k]) ∨ (k = L.length ∧ rest ≠ [])) ∧ r = .tup [.sl 1 true [] .any, .int .i64 k, .int .i64 4])
theorem unR_facts {L : List (List UInt8)} {rest : List UInt8} {r : AVal} (hr : UnR L rest r) (hn : ¬ Long L rest) :
    ((∀ x ∈ L, IsC x) → rest = [] → r = .tup [.sl 7 (L.map callL).isEmpty (cvs (L.map callL)) .any, .int .i64 0, .int .i64 0]) ∧
    (∀ k (h : k < L.length), (∀ x ∈ L.take k, IsC x) → ¬ IsC L[k] → r = .tup [.sl 1 true [] .any, .int .i64 k, .int .i64 4]) ∧
    ((∀ x ∈ L, IsC x) → rest ≠ [] → r = .tup [.sl 1 true [] .any, .int .i64 L.length, .int .i64 4]) := by
  refine ⟨fun h1 h2 => ?_, fun k hk h1 h2 => ?_, fun h1 h2 => ?_⟩
  · rcases hr with ⟨h, _⟩ | ⟨_, _, _, e⟩ | ⟨_, j, hj, g1, g2, e⟩
    · exact absurd h hn
    · exact e
    · rcases g2 with ⟨hl, g⟩ | ⟨_, g⟩
      · exact absurd (h1 _ (List.getElem_mem hl)) g
      · exact absurd h2 g
  · rcases hr with ⟨h, _⟩ | ⟨_, g, _, e⟩ | ⟨_, j, hj, g1, g2, e⟩
    · exact absurd h hn
    · exact absurd (g _ (List.getElem_mem hk)) h2
    · have : j = k := by
        rcases Nat.lt_trichotomy j k with h | h | h
        · rcases g2 with ⟨hl, g⟩ | ⟨g, _⟩
          · exact absurd (h1 _ (List.mem_take_iff_getElem.2 ⟨j, by omega, rfl⟩)) g
          · omega
        · exact h
        · exact absurd (g1 _ (List.mem_take_iff_getElem.2 ⟨k, by omega, rfl⟩)) h2
      subst this
      exact e
  · rcases hr with ⟨h, _⟩ | ⟨_, _, g, _⟩ | ⟨_, j, hj, g1, g2, e⟩
    · exact absurd h hn
    · exact absurd g h2
    · rcases g2 with ⟨hl, g⟩ | ⟨g, _⟩
      · exact absurd (h1 _ (List.getElem_mem hl)) g
      · rw [e, g]

theorem cl_snoc (L : List (List UInt8)) (k : Nat) (h : k < L.length) : cvs ((L.take k).map callL) ++ [.agg (.int .i64 (callL L[k]).1 :: wl (callL L[k]).2)] = cvs ((L.take (k + 1)).map callL) := by
  rw [List.take_succ_eq_append_getElem h, List.map_append, append_cvs]
  rfl
end
end Go.Am
