/- What a text's parts say: plain laws. -/
import Derived.Test.YtbkfnbnechpolaaDoorC25
import Derived.Lib.ParseIntBCases
import Derived.Lib.CountLaws
set_option linter.unusedVariables false
set_option linter.unusedSimpArgs false
namespace Go.Am
open Go Go.Proofs
set_option linter.unusedSimpArgs false
set_option linter.unusedVariables false
set_option maxRecDepth 100000

/-! ### Parts -/
theorem index_miss1 (c : UInt8) : ∀ l : List UInt8, c ∉ l → Lib.index l [c] = -1
  | [], _ => rfl
  | b :: l, h => by
    have hb : ¬ c = b := fun e => h (by simp [e])
    rw [Lib.index]
    simp only [List.isPrefixOf, Bool.and_true, beq_iff_eq, hb, if_false, index_miss1 c l (fun k => h (List.mem_cons_of_mem _ k)), if_true]
theorem index_hit1 (c : UInt8) : ∀ x y : List UInt8, c ∉ x → Lib.index (x ++ c :: y) [c] = (x.length : Int)
  | [], y, _ => by
    rw [List.nil_append, Lib.index]
    simp [List.isPrefixOf]
  | b :: x, y, h => by
    have hb : ¬ c = b := fun e => h (by simp [e])
    have ih := index_hit1 c x y (fun k => h (List.mem_cons_of_mem _ k))
    rw [List.cons_append, Lib.index]
    simp only [List.isPrefixOf, Bool.and_true, beq_iff_eq, hb, if_false, ih]
    rw [if_neg (by omega)]
    simp

theorem ext_list (l : List UInt8) (a b : Nat) : (⟨l.toArray⟩ : ByteArray).extract a b = ⟨((l.drop a).take (b - a)).toArray⟩ := by
  apply ByteArray.ext
  rw [ByteArray.data_extract, List.extract_toArray]

theorem parts_miss (c : UInt8) (x : List UInt8) (h : c ∉ x) : parts x [c] = [x] := by
  have hi : Lib.indexB ⟨x.toArray⟩ ⟨[c].toArray⟩ = -1 := index_miss1 c x h
  unfold parts
  rw [Lib.countB_miss _ _ hi]
  rfl
theorem parts_hit (c : UInt8) (x y : List UInt8) (h : c ∉ x) : parts (x ++ c :: y) [c] = x :: parts y [c] := by
  have hi : Lib.indexB ⟨(x ++ c :: y).toArray⟩ ⟨[c].toArray⟩ = ((x.length : Nat) : Int) := index_hit1 c x y h
  have hs1 : (⟨[c].toArray⟩ : ByteArray).size = 1 := rfl
  have hs2 : (⟨(x ++ c :: y).toArray⟩ : ByteArray).size = x.length + (y.length + 1) := by show (x ++ c :: y).length = _; simp
  have ey : (⟨(x ++ c :: y).toArray⟩ : ByteArray).extract (x.length + (⟨[c].toArray⟩ : ByteArray).size) (⟨(x ++ c :: y).toArray⟩ : ByteArray).size = ⟨y.toArray⟩ := by
    rw [ext_list, hs1, hs2]
    congr 2
    rw [List.drop_append, List.drop_eq_nil_of_le (by omega), List.nil_append]
    simp
    rw [show x.length + (y.length + 1) - (x.length + 1) = y.length by omega]
    exact List.take_length
  unfold parts
  rw [Lib.countB_hit _ _ x.length (by rw [hs1]; exact Nat.le_refl _) hi, ey, Nat.add_comm, Lib.splitB_hit _ _ _ _ _ hi, ey, ext_list]
  simp

theorem splitB_sizes (sep : ByteArray) : ∀ (k : Nat) (s x : ByteArray), x ∈ Lib.splitB sep 0 k s → x.size ≤ s.size
  | 0, s, x, h => by
    rw [Lib.splitB_zero] at h
    rw [List.mem_singleton.1 h]
    exact Nat.le_refl _
  | k + 1, s, x, h => by
    unfold Lib.splitB at h
    split at h
    · rw [List.mem_singleton.1 h]; exact Nat.le_refl _
    · rcases List.mem_cons.1 h with rfl | h
      · rw [ByteArray.size_extract]; omega
      · have := splitB_sizes sep k _ x h
        rw [ByteArray.size_extract] at this
        omega
theorem parts_sizes (s p : List UInt8) : ∀ x ∈ parts s p, x.length ≤ s.length := by
  intro x hx
  unfold parts at hx
  obtain ⟨y, hy, rfl⟩ := List.mem_map.1 hx
  exact splitB_sizes _ _ _ _ hy
theorem parts_len (s : List UInt8) (p : List UInt8) (hp : 1 ≤ p.length) : ∃ w0 wr, parts s p = w0 :: wr ∧ wr.length ≤ s.length := by
  have h1 := Lib.splitB_all ⟨p.toArray⟩ hp 0 _ ⟨s.toArray⟩ rfl
  have h2 := Lib.countB_le ⟨p.toArray⟩ hp _ ⟨s.toArray⟩ (Nat.le_refl _)
  have hz : (⟨s.toArray⟩ : ByteArray).size = s.length := rfl
  have h3 : (parts s p).length = Lib.countB ⟨s.toArray⟩ ⟨p.toArray⟩ + 1 := by unfold parts; simpa using h1
  cases hq : parts s p with
  | nil => rw [hq] at h3; simp at h3
  | cons w0 wr =>
    rw [hq] at h3
    refine ⟨w0, wr, rfl, ?_⟩
    simp only [List.length_cons] at h3
    omega

/-! ### Numerals -/
theorem dec_all : ∀ (u : Nat), (∀ b ∈ Lib.decDigits u, 48 ≤ b.toNat ∧ b.toNat ≤ 57) ∧ Lib.decDigits u ≠ [] := by
  intro u
  induction u using Nat.strongRecOn with
  | _ u ih =>
    have one : ∀ m : Nat, m < 10 → 48 ≤ (UInt8.ofNat (48 + m)).toNat ∧ (UInt8.ofNat (48 + m)).toNat ≤ 57 := by
      intro m hm
      rw [ofNat_toNat8 _ (by omega)]
      omega
    rw [Lib.decDigits]
    split
    · next h =>
      refine ⟨fun b hb => ?_, by simp⟩
      rw [List.mem_singleton.1 hb]
      exact one u h
    · next h =>
      refine ⟨fun b hb => ?_, by simp⟩
      rcases List.mem_append.1 hb with hb | hb
      · exact (ih (u / 10) (by omega)).1 b hb
      · rw [List.mem_singleton.1 hb]
        exact one (u % 10) (by omega)

theorem parseM_append (M : Nat) : ∀ (l r : List UInt8) (acc a : Nat), Lib.parseUintM M acc l = .ok a → Lib.parseUintM M acc (l ++ r) = Lib.parseUintM M a r
  | [], r, acc, a, h => by
    simp only [Lib.parseUintM] at h
    injection h with h
    rw [h, List.nil_append]
  | c :: l, r, acc, a, h => by
    rw [List.cons_append]
    simp only [Lib.parseUintM] at h ⊢
    split at h
    · next h1 =>
      rw [if_pos h1]
      split at h
      · cases h
      · next h2 =>
        rw [if_neg h2]
        split at h
        · cases h
        · next h3 =>
          rw [if_neg h3]
          exact parseM_append M l r _ a h
    · cases h

theorem parse_one (M acc m : Nat) (hm : m < 10) (ha : acc < 1844674407370955162) (h : acc * 10 + m ≤ M) : Lib.parseUintM M acc [UInt8.ofNat (48 + m)] = .ok (acc * 10 + m) := by
  have e : (UInt8.ofNat (48 + m)).toNat = 48 + m := ofNat_toNat8 _ (by omega)
  simp only [Lib.parseUintM, e]
  rw [if_pos (by omega), if_neg (by omega), if_neg (by omega)]
  congr 1
  omega

theorem parse_dec (M : Nat) (hM : M < 1844674407370955162) : ∀ u : Nat, u ≤ M → Lib.parseUintM M 0 (Lib.decDigits u) = .ok u := by
  intro u
  induction u using Nat.strongRecOn with
  | _ u ih =>
    intro hu
    rw [Lib.decDigits]
    split
    · next h =>
      have := parse_one M 0 u h (by omega) (by omega)
      simpa using this
    · next h =>
      rw [parseM_append M _ _ 0 (u / 10) (ih (u / 10) (by omega) (by omega)), parse_one M (u / 10) (u % 10) (by omega) (by omega) (by omega)]
      congr 1
      omega

theorem numP_itoa (n : Int) (h0 : -2147483648 ≤ n) (h1 : n ≤ 2147483647) : numP (Lib.itoa n) = n := by
  have hp : ∀ u : Nat, u ≤ 4294967295 → Lib.parseUintB 32 (Lib.decDigits u) = .ok u := by
    intro u hu
    unfold Lib.parseUintB
    rw [if_neg (dec_all u).2]
    exact parse_dec (2 ^ 32 - 1) (by decide) u (by simpa using hu)
  unfold numP Lib.itoa
  by_cases hn : n < 0
  · rw [if_pos hn, Lib.parseIntB_minus, hp n.natAbs (by omega)]
    simp only [Lib.signedC]
    rw [if_neg (by simp; omega)]
    simp only
    omega
  · rw [if_neg hn]
    have hd := dec_all n.toNat
    have hq := hp n.toNat (by omega)
    cases hl : Lib.decDigits n.toNat with
    | nil => exact absurd hl hd.2
    | cons c r =>
      have hc := hd.1 c (by rw [hl]; simp)
      rw [hl] at hq
      rw [Lib.parseIntB_plain 32 c r (by omega) (by omega), hq]
      simp only [Lib.signlessC]
      rw [if_neg (by simp; omega)]
      simp only
      omega

theorem itoa_mem (n : Int) : ∀ b ∈ Lib.itoa n, b.toNat = 45 ∨ (48 ≤ b.toNat ∧ b.toNat ≤ 57) := by
  intro b hb
  unfold Lib.itoa at hb
  split at hb
  · rcases List.mem_cons.1 hb with rfl | hb
    · exact .inl rfl
    · exact .inr ((dec_all _).1 b hb)
  · exact .inr ((dec_all _).1 b hb)
theorem itoa_no (n : Int) (c : UInt8) (hc : c.toNat < 45 ∨ 57 < c.toNat) : c ∉ Lib.itoa n := fun h => by
  have := itoa_mem n c h
  omega

theorem trim_r (D : List UInt8) : Lib.trimPrefix (114 :: D) [114] = D := by simp [Lib.trimPrefix, Lib.hasPrefix, List.isPrefixOf]
theorem trim_no (l : List UInt8) (h : 114 ∉ l) : Lib.trimPrefix l [114] = l := by
  unfold Lib.trimPrefix Lib.hasPrefix
  cases l with
  | nil => simp [List.isPrefixOf]
  | cons c r =>
    have hc : ¬ (114 : UInt8) = c := fun e => h (by simp [e])
    simp [List.isPrefixOf, hc]

/-! ### Texts of instructions -/
def partW (D A B I : List UInt8) (c : UInt8) : List UInt8 := if c = 100 then 114 :: D else if c = 97 then 114 :: A else if c = 98 then 114 :: B else I

theorem txL_cons (D A B I : List UInt8) (c : UInt8) (p : List UInt8) : txL D A B I (c :: p) = 32 :: (partW D A B I c ++ txL D A B I p) := by
  simp only [txL, partW]
  repeat' split
  all_goals simp

theorem parts_txt (D A B I : List UInt8) (hD : 32 ∉ D) (hA : 32 ∉ A) (hB : 32 ∉ B) (hI : 32 ∉ I) : ∀ (p w : List UInt8), 32 ∉ w → parts (w ++ txL D A B I p) [32] = w :: p.map (partW D A B I)
  | [], w, hw => by simpa [txL] using parts_miss 32 w hw
  | c :: p, w, hw => by
    have hp : 32 ∉ partW D A B I c := by
      unfold partW
      repeat' split
      · simpa using hD
      · simpa using hA
      · simpa using hB
      · exact hI
    rw [txL_cons, parts_hit 32 w _ hw, parts_txt D A B I hD hA hB hI p _ hp, List.map_cons]

/-- A text is an instruction's that may be. -/
def IsIns (s : List UInt8) (op d a b i : Int) : Prop := MayF op d a b i (frm op).1 (frm op).2 ∧ txt op d a b i = s

theorem frm_no {op : Int} (h : 1 ≤ op ∧ op ≤ 17) : (32 : UInt8) ∉ (frm op).1 ∧ (10 : UInt8) ∉ (frm op).1 := by
  rcases ops_cases op with (rfl | rfl | rfl | rfl | rfl | rfl | rfl | rfl | rfl | rfl | rfl | rfl | rfl | rfl | rfl | rfl | rfl) | h'
  iterate 17 exact ⟨by simp [frm], by simp [frm]⟩
  omega

theorem ins_parts {s : List UInt8} {op d a b i : Int} (h : IsIns s op d a b i) : parts s [32] = (frm op).1 :: (frm op).2.map (partW (Lib.itoa d) (Lib.itoa a) (Lib.itoa b) (Lib.itoa i)) ∧
    insK ((frm op).1 :: (frm op).2.map (partW (Lib.itoa d) (Lib.itoa a) (Lib.itoa b) (Lib.itoa i))) (frm op).2 (frm op).2.length = (d, a, b, i) := by
  obtain ⟨hm, rfl⟩ := h
  obtain ⟨ho, hd, ha, hb, hi⟩ := may_range hm
  have no : ∀ n, (32 : UInt8) ∉ Lib.itoa n := fun n => itoa_no n 32 (by decide)
  refine ⟨parts_txt _ _ _ _ (no d) (no a) (no b) (no i) _ _ (frm_no ho).1, ?_⟩
  have nd := numP_itoa d (by omega) (by omega)
  have na := numP_itoa a (by omega) (by omega)
  have nb := numP_itoa b (by omega) (by omega)
  have ni := numP_itoa i (by omega) (by omega)
  have ti := trim_no (Lib.itoa i) (itoa_no i 114 (by decide))
  obtain ⟨_, md, ma, mb, _, _, mi⟩ := hm
  unfold RegOk at md ma mb
  rcases ops_cases op with (rfl | rfl | rfl | rfl | rfl | rfl | rfl | rfl | rfl | rfl | rfl | rfl | rfl | rfl | rfl | rfl | rfl) | h'
  iterate 17
    simp [frm, Lib.indexByte] at md ma mb mi
    simp [frm, insK, stepI, partW, trim_r, ti, nd, na, nb, ni, List.getD]
    try omega
  omega

theorem ins_unique {s : List UInt8} {op d a b i op' d' a' b' i' : Int} (h : IsIns s op d a b i) (h' : IsIns s op' d' a' b' i') : op = op' ∧ d = d' ∧ a = a' ∧ b = b' ∧ i = i' := by
  obtain ⟨p1, q1⟩ := ins_parts h
  obtain ⟨p2, q2⟩ := ins_parts h'
  have e := p1.symm.trans p2
  have ho : op = op' := frm_inj (may_range h.1).1 (may_range h'.1).1 (List.cons.inj e).1
  subst ho
  rw [e, q2] at q1
  simp only [Prod.mk.injEq] at q1
  exact ⟨rfl, q1.1.symm, q1.2.1.symm, q1.2.2.1.symm, q1.2.2.2.symm⟩

/-- An instruction's text is read as it. -/
theorem untext_is {s : List UInt8} (hs : s.length ≤ 20000) {op d a b i : Int} (h : IsIns s op d a b i) :
    ACall cx 31 [.str s, .map 0] [.mpx FORMS 17] (.tup [.agg [.int .i64 op, .int .i64 d, .int .i64 a, .int .i64 b, .int .i64 i], .bool true]) [.mpx FORMS 17] := by
  obtain ⟨p1, q1⟩ := ins_parts h
  have hz := parts_sizes s [32]
  rw [p1] at hz
  exact untext_hit s hs op (may_range h.1).1 _ p1 (by simp) (fun x hx => Nat.le_trans (hz x (List.mem_cons_of_mem _ hx)) hs) d a b i true q1 (decide_eq_true (p := MayF op d a b i (frm op).1 (frm op).2 ∧ txt op d a b i = s) h).symm

/-- A text that is no instruction's is refused. -/
theorem untext_no {s : List UInt8} (hs : s.length ≤ 20000) (h : ∀ op d a b i, ¬ IsIns s op d a b i) :
    ∃ op d a b i : Int, ACall cx 31 [.str s, .map 0] [.mpx FORMS 17] (.tup [.agg [.int .i64 op, .int .i64 d, .int .i64 a, .int .i64 b, .int .i64 i], .bool false]) [.mpx FORMS 17] := by
  obtain ⟨w0, wr, hw, hl⟩ := parts_len s [32] (by decide)
  have hz := parts_sizes s [32]
  rw [hw] at hz
  by_cases hh : ∃ op : Int, (1 ≤ op ∧ op ≤ 17) ∧ (frm op).1 = w0 ∧ wr.length = (frm op).2.length
  · obtain ⟨op, ho, rfl, hwl⟩ := hh
    obtain ⟨d, a, b, i, hq⟩ : ∃ d a b i, insK ((frm op).1 :: wr) (frm op).2 (frm op).2.length = (d, a, b, i) := ⟨_, _, _, _, rfl⟩
    exact ⟨op, d, a, b, i, untext_hit s hs op ho wr hw hwl (fun x hx => Nat.le_trans (hz x (List.mem_cons_of_mem _ hx)) hs) d a b i false hq (decide_eq_false (p := MayF op d a b i (frm op).1 (frm op).2 ∧ txt op d a b i = s) (h op d a b i)).symm⟩
  · exact ⟨0, 0, 0, 0, 0, untext_miss s hs w0 wr hw (by omega) fun op ho k => hh ⟨op, ho, k.1, k.2⟩⟩
end Go.Am
