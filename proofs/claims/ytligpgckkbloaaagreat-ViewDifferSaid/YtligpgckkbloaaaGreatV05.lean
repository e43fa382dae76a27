/- View chapter: a walk's post condition may be weakened; views that differ nowhere are the same. -/
import Derived.Test.YtligpgckkbloaaaGreatV04
set_option linter.unusedVariables false
set_option linter.unusedSimpArgs false
namespace Go.Am
open Go Go.Proofs
set_option maxRecDepth 100000
section
variable {C : Cx}
theorem aOpK_mono {op : Op} {fr : Fr} {S : St} {K K' : AVal → St → Prop} (h : aOpK C op fr S K) (hk : ∀ r S', K r S' → K' r S') : aOpK C op fr S K' := by
  unfold aOpK at h ⊢
  rcases h with (⟨t, x, h1, h2, h3⟩ | ⟨t, e, i, j, m, h1, h2, h3, h4, h5, h6⟩ | ⟨t, e, i, j, m, h1, h2, h3, h4, h5, h6⟩ | ⟨t, e, n, parts, i, j, out, h1, h2, h3, h4, h5, h6, h7⟩) | ⟨k, t, i, h1, h2, h3, h4⟩ | h
  · exact .inl (.inl ⟨t, x, h1, h2, hk _ _ h3⟩)
  · exact .inl (.inr (.inl ⟨t, e, i, j, m, h1, h2, h3, h4, h5, hk _ _ h6⟩))
  · exact .inl (.inr (.inr (.inl ⟨t, e, i, j, m, h1, h2, h3, h4, h5, hk _ _ h6⟩)))
  · exact .inl (.inr (.inr (.inr ⟨t, e, n, parts, i, j, out, h1, h2, h3, h4, h5, h6, hk _ _ h7⟩)))
  · exact .inr (.inl ⟨k, t, i, h1, h2, h3, hk _ _ h4⟩)
  · refine .inr (.inr ?_)
    revert h
    split
    · split
      · rintro ⟨r, S', h1, h2⟩; exact ⟨r, S', h1, hk _ _ h2⟩
      · rintro ⟨r, S', h1, h2⟩; exact ⟨r, S', h1, hk _ _ h2⟩
      · exact id
    · split
      · rintro ⟨h1, h2⟩; exact ⟨h1, hk _ _ h2⟩
      · exact id
theorem aL_mono {m : Md} {Q Q' : Fr → St → Prop} (hq : ∀ fr S, Q fr S → Q' fr S) : ∀ (ops : List LO) (fr : Fr) (S : St), aL C m ops Q fr S → aL C m ops Q' fr S
  | [], fr, S, h => hq fr S h
  | o :: rest, fr, S, h => by
    simp only [aL] at h ⊢
    revert h
    split
    · exact id
    · split
      · exact fun h => aOpK_mono h fun r S' ⟨h1, h2⟩ => ⟨h1, aL_mono hq rest _ _ h2⟩
      · exact fun h => aL_mono hq rest _ _ h
end
theorem akI_all {a b : List Int} (ha : a.length ≤ 200) (hb : b.length ≤ 200) : a = b ↔ ∀ k, k < 200 → akI a b k = true := by
  constructor
  · rintro rfl k _; simp [akI]
  · intro h
    have hl : a.length = b.length := by
      refine Classical.byContradiction fun hne => ?_
      rcases Nat.lt_or_gt_of_ne hne with hlt | hlt
      · have := h a.length (by omega)
        simp [akI, hlt] at this
      · have := h b.length (by omega)
        simp [akI, hlt] at this
    refine List.ext_getElem hl fun k h1 h2 => ?_
    have := h k (by omega)
    simp [akI, h1, h2, List.getD] at this
    exact this
theorem akG_all {a b : List (List UInt8)} (ha : a.length ≤ 200) (hb : b.length ≤ 200) : a = b ↔ ∀ k, k < 200 → akG a b k = true := by
  constructor
  · rintro rfl k _; simp [akG]
  · intro h
    have hl : a.length = b.length := by
      refine Classical.byContradiction fun hne => ?_
      rcases Nat.lt_or_gt_of_ne hne with hlt | hlt
      · have := h a.length (by omega)
        simp [akG, hlt] at this
      · have := h b.length (by omega)
        simp [akG, hlt] at this
    refine List.ext_getElem hl fun k h1 h2 => ?_
    have := h k (by omega)
    simp [akG, h1, h2, List.getD] at this
    exact this
theorem akI_out {a b : List Int} {k : Nat} (ha : a.length ≤ k) (hb : b.length ≤ k) : akI a b k = true := by
  simp [akI, List.getD, Nat.not_lt.2 ha, Nat.not_lt.2 hb]
theorem akG_out {a b : List (List UInt8)} {k : Nat} (ha : a.length ≤ k) (hb : b.length ≤ k) : akG a b k = true := by
  simp [akG, List.getD, Nat.not_lt.2 ha, Nat.not_lt.2 hb]
theorem difV_out (a b : Vw) {k : Nat} (h : topV a b ≤ k) : difV a b k = false := by
  have h : max (max (max (max (max a.s.length b.s.length) a.h.length) b.h.length) a.b.length) b.b.length ≤ k := h
  unfold difV
  rw [akI_out (by omega) (by omega), akI_out (by omega) (by omega), akG_out (by omega) (by omega)]; rfl
theorem difL_more (a b : Vw) : ∀ (n k : Nat), topV a b ≤ k → difL a b (k + n) = difL a b k
  | 0, _, _ => rfl
  | n + 1, k, h => by
    rw [← Nat.add_assoc, difL_succ, difV_out a b (by omega), difL_more a b n k h]; rfl
theorem difL_200 (a b : Vw) (ha : a.Ok) (hb : b.Ok) : difL a b (topV a b) = difL a b 200 := by
  have hN : topV a b ≤ 200 := by
    have := ha.s1; have := ha.h1; have := ha.b1; have := hb.s1; have := hb.h1; have := hb.b1
    unfold topV; omega
  have := difL_more a b (200 - topV a b) (topV a b) (Nat.le_refl _)
  rw [← this]; congr 1; omega
theorem difL_none (a b : Vw) (k : Nat) : difL a b k = [] ↔ ∀ j, j < k → difV a b j = false := by
  unfold difL
  rw [List.map_eq_nil_iff, List.filter_eq_nil_iff]
  simp
theorem same_difL (a b : Vw) (ha : a.Ok) (hb : b.Ok) : sameVw a b = decide ((difL a b 200).length = 0) := by
  have h1 := akI_all ha.s1 hb.s1
  have h2 := akI_all ha.h1 hb.h1
  have h3 := akG_all ha.b1 hb.b1
  have key : sameVw a b = true ↔ (difL a b 200).length = 0 := by
    rw [List.length_eq_zero_iff, difL_none]
    unfold sameVw
    simp only [Bool.and_eq_true, decide_eq_true_eq, h1, h2, h3]
    constructor
    · rintro ⟨k1, k2, k3⟩ j hj
      unfold difV
      rw [k1 j hj, k2 j hj, k3 j hj]; rfl
    · intro h
      refine ⟨fun j hj => ?_, fun j hj => ?_, fun j hj => ?_⟩
      all_goals
        have := h j hj
        unfold difV at this
        revert this
        cases akI a.s b.s j <;> cases akI a.h b.h j <;> cases akG a.b b.b j <;> simp
  by_cases h : (difL a b 200).length = 0
  · rw [decide_eq_true h, key.2 h]
  · rw [decide_eq_false h, Bool.eq_false_iff]
    exact fun e => h (key.1 e)
theorem same_self (a : Vw) : sameVw a a = true := by simp [sameVw]
end Go.Am
