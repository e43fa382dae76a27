/- cpu seat: strings.Builder: copyCheck and String by the model's own walk; WriteString. -/
import Derived.Test.YtikookfljnilpaaDoorTrydSx
import Derived.Test.YtikookfljnilpaaDoorAmBld
import Derived.Shelf.RegionOpenPlain
import Derived.Lib.Strings
import Derived.Lib.Slices
import Derived.Lib.Walk
import Derived.Lib.AppendStr
import Derived.Laws.Externs
import Derived.Test.YtikookfljnilpaaDoorAmFresh
import Derived.Test.YtikookfljnilpaaDoorAmSimp
import Derived.Test.YtikookfljnilpaaDoorAmDrop
section
set_option linter.unusedVariables false
set_option linter.unusedSimpArgs false
set_option linter.unusedVariables false
set_option linter.unusedSimpArgs false
namespace Go.Am
open Go Go.RowKit Go.Proofs

set_option maxHeartbeats 2000000 in
set_option maxRecDepth 100000 in
theorem check_fresh (b : Nat) (w : World) (h0 : w.cell? ⟨b, 0, none⟩ = some (.pointer none)) (hsh : w.shape? b = some (89, 2)) (hfz : w.frozen? ⟨b, 0, none⟩ = false) :
    Calls Tryd.prog 66 #[.pointer (some ⟨b, 0, none⟩)] w fun e w' => e = .returned (.tuple #[]) ∧ w' = w.setCell ⟨b, 0, none⟩ (.pointer (some ⟨b, 0, none⟩)) := by
  have hsz : (Tryd.prog.info? 89).map (·.size) = some 2 := by kernel_rfl
  have hlies : liesAt Tryd.prog Tryd.prog.depth 89 (2 / Tryd.prog.cellsOf 89) 0 89 1 = true := by kernel_rfl
  obtain ⟨j, hj, hjs⟩ := Option.map_eq_some_iff.1 hsz
  go_enter Tryd.func66, Tryd.ntmps66
  go_wp2
  rw [Lib.run_to_unsafe w ⟨b, 0, none⟩ Tryd.underlying87 Tryd.underlying118 hj (by rw [hjs]; decide) hsh (Nat.zero_lt_succ 1)]
  simp only [Result.andThen]
  rw [Oper.upon_value]
  go_wp2
  rw [run_callFunc_extern Tryd.func80 (by kernel_rfl) (by kernel_rfl) (by kernel_rfl) (e := Extern.AbiNoEscape.same) (by kernel_rfl)]
  rw [Lib.run_noEscape]
  simp only [Result.andThen]
  rw [Oper.upon_value]
  go_wp2
  rw [Lib.run_from_unsafe w ⟨b, 0, none⟩ Tryd.underlying118 Tryd.underlying87 hj hsh hlies]
  simp only [Result.andThen]
  rw [Oper.upon_value]
  go_wp2
  go_end0
  exact ⟨rfl, rfl⟩

set_option maxHeartbeats 2000000 in
set_option maxRecDepth 100000 in
theorem check_used (b : Nat) (w : World) (h0 : w.cell? ⟨b, 0, none⟩ = some (.pointer (some ⟨b, 0, none⟩))) :
    Calls Tryd.prog 66 #[.pointer (some ⟨b, 0, none⟩)] w fun e w' => e = .returned (.tuple #[]) ∧ w' = w := by
  have hsz : (Tryd.prog.info? 89).map (·.size) = some 2 := by kernel_rfl
  obtain ⟨j, hj, _⟩ := Option.map_eq_some_iff.1 hsz
  go_enter Tryd.func66, Tryd.ntmps66
  go_wp2
  rw [Lib.run_neq_ptr_same w _ Tryd.underlying87 hj]
  go_wp2
  go_end0
  exact ⟨rfl, rfl⟩

set_option maxHeartbeats 2000000 in
set_option maxRecDepth 100000 in
theorem string_row (b g cap : Nat) (cur : Array Value) (l : List UInt8) (w : World) (hc1 : w.cell? ⟨b, 1, none⟩ = some (.slice (some ⟨g, 0, none⟩) l.length cap)) (hg : w.heap[g]? = some (.cells cur 5 (0, 0)))
    (h0 : l ≠ []) (hnc : l.length ≤ cap) (hcm : cap ≤ maxLen) (hcs : l.length ≤ cur.size) (hcell : ∀ j x, l[j]? = some x → w.cell? ((⟨g, 0, none⟩ : Addr).add j) = some (.int .u8 x.toNat)) :
    Calls Tryd.prog 54 #[.pointer (some ⟨b, 0, none⟩)] w fun e w' => e = .returned (.string ⟨l.toArray⟩) ∧ w' = w.drew.freeze ⟨g, 0, none⟩ l.length := by
  have hl0 : l.length ≠ 0 := by simpa using h0
  have c1 : w.drew.cell? ⟨b, 1, none⟩ = some (.slice (some ⟨g, 0, none⟩) l.length cap) := hc1
  have hSD : (Builtin.unsafeSliceData_ #[38] 106 #[.slice (some ⟨g, 0, none⟩) l.length cap]).run Tryd.prog w.drew = .ok (.pointer (some ⟨g, 0, none⟩)) w.drew :=
    Lib.run_unsafeSliceData_row _ _ _ _ _ _ (by omega)
  have hUS : (Builtin.unsafeString_ #[106, 3] 9 #[.pointer (some ⟨g, 0, none⟩), .int .i64 l.length]).run Tryd.prog w.drew = .ok (.string ⟨l.toArray⟩) (w.drew.freeze ⟨g, 0, none⟩ l.length) := by
    refine Lib.run_unsafeString_row w.drew 106 3 9 5 Tryd.underlying106 (by kernel_rfl) g cur.size (by have hg' : w.drew.heap[g]? = some (.cells cur 5 (0, 0)) := hg; simp [World.shape?, hg']) l h0 hcs (by unfold maxLen at hcm; omega) ?_
    intro j x hx
    exact hcell j x hx
  have mixed : Tryd.prog.follows Departure.mixedOrders = true := by kernel_rfl
  go_enter Tryd.func54, Tryd.ntmps54
  go_wp2
  go_region_o
  all_goals (go_wp2; go_ret; exact ⟨rfl, rfl⟩)

set_option maxHeartbeats 2000000 in
set_option maxRecDepth 100000 in
theorem string_nil (b : Nat) (w : World) (hc1 : w.cell? ⟨b, 1, none⟩ = some (.slice none 0 0)) :
    Calls Tryd.prog 54 #[.pointer (some ⟨b, 0, none⟩)] w fun e w' => e = .returned (.string ⟨#[]⟩) ∧ w' = w.drew := by
  have hUS := fun (W : World) (q : Option Addr) => Lib.run_unsafeString_none (P := Tryd.prog) W 106 3 9 q
  have c1 : w.drew.cell? ⟨b, 1, none⟩ = some (.slice none 0 0) := hc1
  have hSD : (Builtin.unsafeSliceData_ #[38] 106 #[.slice none 0 0]).run Tryd.prog w.drew = .ok (.pointer none) w.drew := rfl
  have mixed : Tryd.prog.follows Departure.mixedOrders = true := by kernel_rfl
  go_enter Tryd.func54, Tryd.ntmps54
  go_wp2
  go_region_o
  all_goals (go_wp2; go_ret; exact ⟨rfl, rfl⟩)

theorem bldOk : BldOk cx.P 66 54 89 5 where
  callc := ⟨_, Tryd.func66, by kernel_rfl, by kernel_rfl⟩
  calls := ⟨_, Tryd.func54, by kernel_rfl, by kernel_rfl⟩
  fresh := check_fresh
  used := check_used
  row := string_row
  nil := string_nil
end Go.Am
end
section
set_option linter.unusedVariables false
set_option linter.unusedSimpArgs false
namespace Go.Am
open Go Go.Proofs
set_option linter.unusedSimpArgs false
set_option linter.unusedVariables false
set_option maxHeartbeats 4000000
set_option maxRecDepth 100000
attribute [local irreducible] aC aL thenQ blockQ scopeQ ALoop AWp

theorem set_turn {α : Type} (l : List α) {i g : Nat} (h : i ≠ g) (x y z : α) : (l.set i x).set g y = ((l.set i z).set g y).set i x := by
  apply List.ext_getElem?
  intro k
  by_cases h1 : i = k
  · subst h1
    rw [List.getElem?_set_ne (Ne.symm h)]
    by_cases hl : i < l.length
    · rw [List.getElem?_set_self hl, List.getElem?_set_self (by simpa using hl)]
    · rw [List.getElem?_eq_none (by simpa using hl), List.getElem?_eq_none (by simpa using hl)]
  · rw [List.getElem?_set_ne h1]
    by_cases h2 : g = k
    · subst h2
      by_cases hl : g < l.length
      · rw [List.getElem?_set_self (by simpa using hl), List.getElem?_set_self (by simpa using hl)]
      · rw [List.getElem?_eq_none (by simpa using hl), List.getElem?_eq_none (by simpa using hl)]
    · rw [List.getElem?_set_ne h2, List.getElem?_set_ne h2, List.getElem?_set_ne h1, List.getElem?_set_ne h1]

/-- The builder in box i, its row in g. -/
def bld (i g : Nat) (p : AVal) (bs : List UInt8) : ABox := .cells [p, .sl 1 bs.isEmpty (bl bs) (.own g)] 89

theorem write_string {S : St} {i g : Nat} {p : AVal} {bs s : List UInt8} (hp : p = .nilp ∨ p = .ptr i 0) (hS : S[i]? = some (bld i g p bs)) (hg : S[g]? = some (.grow bs.length 1 5)) (hl : bs.length + s.length ≤ 1000000000000) :
    ACall cx 53 [.ptr i 0, .str s] S (.tup [.int .i64 s.length, .nilifc]) ((S.set i (bld i g (.ptr i 0) (bs ++ s))).set g (.grow (bs.length + s.length) 1 5)) := by
  have hne : i ≠ g := by
    rintro rfl
    rw [hS] at hg; cases hg
  have hi : i < S.length := (List.getElem?_eq_some_iff.1 hS).1
  obtain ⟨S1, hS1⟩ : ∃ T : St, T = S.set i (bld i g (.ptr i 0) bs) := ⟨_, rfl⟩
  have hc : ACall cx 66 [.ptr i 0] S (.tup []) S1 := by
    rw [hS1]
    exact bld_check bldOk hp hS
  have a1 : S1[i]? = some (.cells [.ptr i 0, .sl 1 bs.isEmpty (bl bs) (.own g)] 89) := by rw [hS1, List.getElem?_set_self hi]; rfl
  have a2 : S1[g]? = some (.grow bs.length 1 5) := by rw [hS1, List.getElem?_set_ne hne]; exact hg
  have a3 : ∀ x, (S1.set g x)[i]? = some (.cells [.ptr i 0, .sl 1 bs.isEmpty (bl bs) (.own g)] 89) := fun x => by rw [List.getElem?_set_ne (Ne.symm hne)]; exact a1
  have hfin : (S.set i (bld i g (.ptr i 0) (bs ++ s))).set g (.grow (bs.length + s.length) 1 5) = (S1.set g (.grow (bs.length + s.length) 1 5)).set i (.cells [.ptr i 0, .sl 1 (bs.isEmpty && (bl s).isEmpty) (bl bs ++ bl s) (.own g)] 89) := by
    have hA : bld i g (.ptr i 0) (bs ++ s) = .cells [.ptr i 0, .sl 1 (bs.isEmpty && (bl s).isEmpty) (bl bs ++ bl s) (.own g)] 89 := by
      unfold bld
      cases bs <;> simp [bl]
    rw [hA, hS1]
    exact set_turn S hne _ _ _
  rw [hfin]
  clear hfin
  refine acall_fn cxOk Tryd.func53 (by kernel_rfl) (fun _ => false) (fun _ => none) (by kernel_rfl) (Nat.le_of_ble_eq_true (by kernel_rfl)) ?_
  dsimp only [LB, Tryd.f53, lite, nextOf, Option.isNone, Bool.not_true, Bool.not_false, Bool.and_true, Bool.true_and, Bool.false_and, Bool.and_self, Bool.false_eq_true, if_false, if_true, ↓reduceIte, liteO, List.map, Option.map, frame0, List.zipIdx, Nat.reduceAdd]
  try simp only [List.getElem?_toArray, List.getElem?_cons_succ, List.getElem?_cons_zero, Option.bind_some]
  repeat' (first
    | refine aC_seq ?_
    | refine aC_reg rfl ?_
    | refine aC_ret ?_
    | refine thenQ_normal ?_
    | refine aL_nil ?_
    | (apply aL_step; (· exact True.intro); (· simp (disch := first | omega | (simp only [go_sem]; omega)) only [go_sem, get_miss, seval, reduceCtorEq, a1, a2, a3]); (· simp (disch := first | omega | (simp only [go_sem]; omega)) only [go_sem, get_miss, seval, reduceCtorEq, a1, a2, a3] <;> with_reducible rfl); (· simp only [go_sem] <;> with_reducible rfl))
    | (apply aL_acall (hc); (case hg => (simp (disch := first | omega | (simp only [go_sem]; omega)) only [go_sem, get_miss, seval, reduceCtorEq, a1, a2, a3])); (case hx => (simp (disch := first | omega | (simp only [go_sem]; omega)) only [go_sem, get_miss, seval, reduceCtorEq, a1, a2, a3] <;> with_reducible rfl)); (case ha => (simp (disch := first | omega | (simp only [go_sem]; omega)) only [go_sem, get_miss, seval, reduceCtorEq, a1, a2, a3] <;> with_reducible rfl)); (case he => (with_reducible rfl)); (case hp => (rfl)); (case hf => (simp only [go_sem] <;> with_reducible rfl)))
    | fail)
  all_goals try (first | exact True.intro | exact not_false | omega)
  all_goals try (simp (disch := first | omega | (simp only [go_sem]; omega)) only [go_sem, get_miss, seval, reduceCtorEq] <;> first | exact True.intro | omega)
end Go.Am
end
