/- View chapter: items of lists, whether they are alike. -/
import Derived.Test.YtligpgckkbloaaaGreatV01
set_option linter.unusedVariables false
set_option linter.unusedSimpArgs false
namespace Go.Am
open Go Go.Proofs
set_option maxHeartbeats 8000000
set_option maxRecDepth 100000
section
attribute [local irreducible] aC aL thenQ blockQ scopeQ ALoop AWp
attribute [go_sem] List.getD_cons_zero List.getD_cons_succ
theorem bl_inj {a b : List UInt8} (h : bl a = bl b) : a = b := by
  induction a generalizing b with
  | nil => cases b with
    | nil => rfl
    | cons y b => simp [bl] at h
  | cons x a ih => cases b with
    | nil => simp [bl] at h
    | cons y b =>
      simp only [bl, List.map_cons, List.cons.injEq, AVal.int.injEq, true_and] at h
      obtain ⟨h1, h2⟩ := h
      rw [ih h2, UInt8.toNat_inj.1 (Int.ofNat_inj.1 (show ((x.toNat : Nat) : Int) = (y.toNat : Nat) by simpa [bv] using h1))]
end
end Go.Am
