/- CallLists: the document's List, the walk of the law. -/
import Derived.Test.YtikookfljnilpaaDoorL22
import Derived.Test.YtikookfljnilpaaDoorL22
set_option linter.unusedVariables false
set_option linter.unusedSimpArgs false
namespace Go.Am
open Go Go.Proofs
set_option linter.unusedSimpArgs false
set_option linter.unusedVariables false
set_option maxHeartbeats 8000000
set_option maxRecDepth 100000
section
attribute [local irreducible] aC aL thenQ blockQ scopeQ ALoop AWp


/-- What both make of a text. -/
theorem both_Unlist (s : List UInt8) (hs : s.length ≤ 1048576) : ∃ (n e : Int),
    (APure cx 32 [.str s] (.tup [.sl 1 true [] .any, .int .i64 n, .int .i64 e]) ∧ APure cx 33 [.str s] (.tup [.sl 1 true [] .any, .int .i64 n, .int .i64 e]) ∧ e ≠ 0) ∨
    (∃ (b : Bool) (M : List Ca), M.length ≤ 65536 ∧ (∀ c ∈ M, WfC c ∧ MayC c.1 c.2) ∧ listT M = s ∧ n = 0 ∧ e = 0 ∧ APure cx 32 [.str s] (.tup [.sl 7 b (cvs M) .any, .int .i64 0, .int .i64 0]) ∧ APure cx 33 [.str s] (.tup [.sl 7 b (cvs M) .any, .int .i64 0, .int .i64 0])) := by
  obtain ⟨L, rest, hp, h1, h2, hj⟩ := jn_lines _ s (Nat.le_refl _)
  have go : ∀ r, UnR L rest r → APure cx 32 [.str s] r ∧ APure cx 33 [.str s] r := fun r hr => ⟨call_Unlist s L rest hs hp h1 h2 hj r hr, ref_Unlist s L rest hs hp hj r hr⟩
  by_cases hl : Long L rest
  · obtain ⟨g1, g2⟩ := go _ (.inl ⟨hl, rfl⟩)
    exact ⟨0, 3, .inl ⟨g1, g2, by decide⟩⟩
  · have h65 : L.length ≤ 65536 := Decidable.byContradiction fun h => hl (.inl (by omega))
    by_cases hall : ∀ x ∈ L, IsC x
    · by_cases hr : rest = []
      · obtain ⟨g1, g2⟩ := go _ (.inr (.inl ⟨hl, hall, hr, rfl⟩))
        refine ⟨0, 0, .inr ⟨_, L.map callL, by rw [List.length_map]; exact h65, fun c hc => ?_, ?_, rfl, rfl, g1, g2⟩⟩
        · obtain ⟨x, hx, rfl⟩ := List.mem_map.1 hc
          have := callL_is (hall x hx)
          exact ⟨⟨this.2.1, this.2.2.1⟩, this.1⟩
        · rw [hj, hr]
          clear go hl hj hp h65 h1 g1 g2
          induction L with
          | nil => rfl
          | cons y L ih =>
            have hy := callL_is (hall y (List.mem_cons_self ..))
            have e := ih fun x hx => hall x (List.mem_cons_of_mem _ hx)
            unfold listT at e ⊢
            rw [List.map_cons, List.flatMap_cons, e, jn_cons, hy.2.2.2]
            simp
      · obtain ⟨g1, g2⟩ := go _ (.inr (.inr ⟨hl, L.length, Nat.le_refl _, by rw [List.take_length]; exact hall, .inr ⟨rfl, hr⟩, rfl⟩))
        exact ⟨_, 4, .inl ⟨g1, g2, by decide⟩⟩
    · have : ∃ k, ∃ h : k < L.length, (∀ x ∈ L.take k, IsC x) ∧ ¬ IsC L[k] := by
        clear go hl hj hp h65 h1
        induction L with
        | nil => exact absurd (fun x hx => by cases hx) hall
        | cons y L ih =>
          by_cases hy : IsC y
          · obtain ⟨k, hk, h1, h2⟩ := ih (fun h => hall (fun x hx => by
              rcases List.mem_cons.1 hx with rfl | hx
              · exact hy
              · exact h x hx))
            exact ⟨k + 1, by simpa using hk, fun x hx => by
              rw [List.take_succ_cons] at hx
              rcases List.mem_cons.1 hx with rfl | hx
              · exact hy
              · exact h1 x hx, by simpa using h2⟩
          · exact ⟨0, by simp, fun x hx => by simp at hx, by simpa using hy⟩
      obtain ⟨k, hk, g1, g2⟩ := this
      obtain ⟨q1, q2⟩ := go _ (.inr (.inr ⟨hl, k, by omega, g1, .inl ⟨hk, g2⟩, rfl⟩))
      exact ⟨_, 4, .inl ⟨q1, q2, by decide⟩⟩

end
end Go.Am
