/- Plain laws of reports' texts. -/
import Derived.Test.YtbaminbodfidmaaDoorR03
import Derived.Test.YtbaminbodfidmaaDoorR04
set_option linter.unusedVariables false
set_option linter.unusedSimpArgs false
namespace Go.Am
open Go Go.Proofs
set_option linter.unusedSimpArgs false
set_option linter.unusedVariables false
set_option maxHeartbeats 8000000
set_option maxRecDepth 100000
section
attribute [local irreducible] aC aL thenQ blockQ scopeQ ALoop AWp

theorem hexd_all : ((List.range 16).all fun k => decide (digl (hexd k) = k) && decide (hexd k ≠ 32)) = true := by decide +kernel
theorem digl_hexd {k : Nat} (h : k < 16) : digl (hexd k) = k := by
  have := List.all_eq_true.1 hexd_all k (List.mem_range.2 h)
  rw [Bool.and_eq_true] at this
  exact of_decide_eq_true this.1
theorem hexd_no {k : Nat} (h : k < 16) : hexd k ≠ 32 := by
  have := List.all_eq_true.1 hexd_all k (List.mem_range.2 h)
  rw [Bool.and_eq_true] at this
  exact of_decide_eq_true this.2
theorem hexl_good : ∀ m : List UInt8, goodp (hexl m) = true ∧ unpre (hexl m) = m ∧ (32 : UInt8) ∉ hexl m
  | [] => ⟨rfl, rfl, by simp [hexl]⟩
  | b :: m => by
    obtain ⟨h1, h2, h3⟩ := hexl_good m
    have hb := b.toNat_lt
    have ha := digl_hexd (k := b.toNat / 16) (by omega)
    have hc := digl_hexd (k := b.toNat % 16) (by omega)
    refine ⟨?_, ?_, ?_⟩
    · simp only [hexl, goodp, ha, hc, h1, Bool.and_true, decide_eq_true_eq]; omega
    · simp only [hexl, unpre, ha, hc, h2]
      rw [show b.toNat / 16 * 16 + b.toNat % 16 = b.toNat by omega]
      simp
    · simp only [hexl, List.mem_cons, not_or]
      exact ⟨Ne.symm (hexd_no (by omega)), Ne.symm (hexd_no (by omega)), h3⟩

theorem rep_parts (n : Nat) (m c : List UInt8) : parts (repT n m c) [32] = [[105, 110, 115, 116, 97, 110, 99, 101], Lib.decDigits n, [109, 101, 97, 115, 117, 114, 101], hexl m, [99, 104, 97, 108, 108, 101, 110, 103, 101], hexl c] := by
  have e : repT n m c = [105, 110, 115, 116, 97, 110, 99, 101] ++ 32 :: (Lib.decDigits n ++ 32 :: ([109, 101, 97, 115, 117, 114, 101] ++ 32 :: (hexl m ++ 32 :: ([99, 104, 97, 108, 108, 101, 110, 103, 101] ++ 32 :: hexl c)))) := by simp [repT]
  have hd : (32 : UInt8) ∉ Lib.decDigits n := dec_no n 32 (.inl (by decide))
  rw [e, parts_hit 32 _ _ (by decide), parts_hit 32 _ _ hd, parts_hit 32 _ _ (by decide), parts_hit 32 _ _ (hexl_good m).2.2, parts_hit 32 _ _ (by decide), parts_miss 32 _ (hexl_good c).2.2]

/-- A text is a report's. -/
def IsRep (s : List UInt8) (n : Nat) (m c : List UInt8) : Prop := n < 18446744073709551616 ∧ m.length = 32 ∧ c.length = 32 ∧ s = repT n m c
theorem rep_same {s : List UInt8} {n n' : Nat} {m c m' c' : List UInt8} (h : IsRep s n m c) (k : IsRep s n' m' c') : n = n' ∧ m = m' ∧ c = c' := by
  have e := rep_parts n m c
  rw [← h.2.2.2, k.2.2.2, rep_parts] at e
  simp only [List.cons.injEq, and_true, true_and] at e
  obtain ⟨e1, e2, e3⟩ := e
  refine ⟨?_, ?_, ?_⟩
  · have h1 := puP_dec n h.1
    rw [← e1, puP_dec n' k.1] at h1
    exact (Option.some.inj h1).symm
  · rw [← (hexl_good m).2.1, ← e2, (hexl_good m').2.1]
  · rw [← (hexl_good c).2.1, ← e3, (hexl_good c').2.1]
/-- Of six parts. -/
theorem rep_six {s : List UInt8} {n : Nat} {m c : List UInt8} (h : IsRep s n m c) {P : List (List UInt8)} (hP : parts s [32] = P) : P.length = 6 ∧ puP (P.getD 1 []) = some n ∧ rnum (P.getD 1 []) = n ∧
    (goodp (P.getD 3 []) = true ∧ unpre (P.getD 3 []) = m) ∧ (goodp (P.getD 5 []) = true ∧ unpre (P.getD 5 []) = c) := by
  rw [h.2.2.2, rep_parts] at hP
  subst hP
  exact ⟨rfl, puP_dec n h.1, rnum_dec n h.1, ⟨(hexl_good m).1, (hexl_good m).2.1⟩, (hexl_good c).1, (hexl_good c).2.1⟩
end
end Go.Am
