/- report.Alike, ref18.Alike, Size, digest. -/
import Derived.Test.YtbaminbodfidmaaDoorP01
set_option linter.unusedVariables false
set_option linter.unusedSimpArgs false
namespace Go.Am
open Go Go.Proofs
set_option linter.unusedSimpArgs false
set_option linter.unusedVariables false
set_option maxHeartbeats 4000000
set_option maxRecDepth 100000
section
attribute [local irreducible] aC aL thenQ blockQ scopeQ ALoop AWp


theorem drop_app {α : Type} {a b : List α} {n : Nat} (h : a.length = n) : (a ++ b).drop n = b := by subst h; simp
theorem take_app {α : Type} {a b : List α} {n : Nat} (h : a.length = n) : (a ++ b).take n = a := by subst h; simp
theorem take_all {α : Type} {a : List α} {n : Nat} (h : a.length ≤ n) : a.take n = a := List.take_of_length_le h
attribute [go_sem] List.getD_cons_zero List.getD_cons_succ
attribute [go_sem] drop_app take_app take_all putCells_eq

/-- A report: its number, its measurement and its challenge. -/
def repc (n : Nat) (m c : List UInt8) : List AVal := .int .u64 n :: bl (m ++ c)

theorem bv_inj {a b : UInt8} (h : bv a = bv b) : a = b := by
  unfold bv at h
  injection h with _ h
  exact UInt8.toNat_inj.1 (by omega)
theorem bl_inj : ∀ {a b : List UInt8}, bl a = bl b → a = b
  | [], [], _ => rfl
  | [], _ :: _, h => by cases h
  | _ :: _, [], h => by cases h
  | x :: a, y :: b, h => by
    simp only [bl, List.map_cons, List.cons.injEq] at h
    rw [bv_inj h.1, bl_inj h.2]
theorem bl_eq (a b : List UInt8) : (bl a = bl b) = (a = b) := propext ⟨bl_inj, fun h => h ▸ rfl⟩
attribute [go_sem] bl_eq
theorem skbs_bl : ∀ {a b : List UInt8}, a.length = b.length → skbs (bl a) (bl b) = true
  | [], [], _ => rfl
  | [], _ :: _, h => by simp at h
  | _ :: _, [], h => by simp at h
  | x :: a, y :: b, h => by
    have := skbs_bl (a := a) (b := b) (by simpa using h)
    simp only [bl, List.map_cons, skbs] at this ⊢
    rw [this]; rfl
theorem skbs_cons (x y : AVal) (a b : List AVal) : skbs (x :: a) (y :: b) = (skb x y && skbs a b) := rfl
theorem skb_int (k : IntKind) (a b : Int) : skb (.int k a) (.int k b) = true := by simp [skb]
attribute [go_sem] skbs_bl skbs_cons skb_int Bool.and_self
theorem repc_eq {n n' : Nat} {m c m' c' : List UInt8} (h1 : m.length = 32) (h2 : m'.length = 32) : (AVal.int .u64 n :: bl (m ++ c) = AVal.int .u64 n' :: bl (m' ++ c')) = (n = n' ∧ m = m' ∧ c = c') := by
  apply propext
  constructor
  · intro h
    injection h with h h'
    injection h with _ h
    have := List.append_inj (bl_inj h') (by omega)
    exact ⟨by omega, this⟩
  · rintro ⟨rfl, rfl, rfl⟩; rfl

theorem report_size : APure cx 17 [] (.int .i64 80) := by
  refine pure_fn cxOk Tryd.func17 (by kernel_rfl) (fun _ => false) (fun _ => none) (by kernel_rfl) (Nat.le_of_ble_eq_true (by kernel_rfl)) ?_
  dsimp only [LB, Tryd.f17, lite, nextOf, Option.isNone, Bool.not_true, Bool.not_false, Bool.and_true, Bool.true_and, Bool.false_and, Bool.and_self, Bool.false_eq_true, if_false, if_true, ↓reduceIte, liteO, List.map, Option.map, frame0, List.zipIdx, Nat.reduceAdd]
  try simp only [List.getElem?_toArray, List.getElem?_cons_succ, List.getElem?_cons_zero, Option.bind_some]
  repeat' (first
    | refine aC_seq ?_
    | refine aC_reg rfl ?_
    | refine aC_block ?_
    | refine aC_skip ?_
    | refine aC_loop ?_
    | refine aC_scope ?_
    | refine scopeQ_normal ?_
    | refine scopeQ_exit ?_
    | refine scopeQ_ret ?_
    | refine aC_exit ?_
    | refine aC_ret ?_
    | refine thenQ_normal ?_
    | refine blockQ_normal ?_
    | refine thenQ_ret ?_
    | refine blockQ_ret ?_
    | refine thenQ_exit ?_
    | refine blockQ_hit ?_
    | refine blockQ_miss rfl ?_
    | refine aL_nil ?_
    | (apply aL_step; (· exact True.intro); (· simp (disch := first | omega | (simp only [go_sem]; omega)) only [go_sem, get_miss, seval, reduceCtorEq]); (· simp (disch := first | omega | (simp only [go_sem]; omega)) only [go_sem, get_miss, seval, reduceCtorEq] <;> with_reducible rfl); (· simp only [go_sem] <;> with_reducible rfl))
    | (refine aL_skip ?_ (by simp only [go_sem] <;> with_reducible rfl) ?_; (· simp (disch := first | omega | (simp only [go_sem]; omega)) only [go_sem, get_miss, seval, reduceCtorEq]))
    | (apply aL_guardN; (· simp (disch := first | omega | (simp only [go_sem]; omega)) only [go_sem, get_miss, seval, reduceCtorEq] <;> with_reducible rfl); all_goals (intro h; first | (exfalso; omega) | (simp only [h, decide_true, decide_false, not_true, not_false_iff])))
    | (apply aL_guardP; (· simp (disch := first | omega | (simp only [go_sem]; omega)) only [go_sem, get_miss, seval, reduceCtorEq] <;> with_reducible rfl); all_goals (intro h; first | (exfalso; omega) | (simp only [h, decide_true, decide_false, not_true, not_false_iff])))
    | (refine aC_condT ?_ ?_; (· simp (disch := first | omega | (simp only [go_sem]; omega)) only [go_sem, get_miss, seval, reduceCtorEq]))
    | (refine aC_condF ?_ ?_; (· simp (disch := first | omega | (simp only [go_sem]; omega)) only [go_sem, get_miss, seval, reduceCtorEq]))
    | (refine aC_condP (by simp (disch := first | omega | (simp only [go_sem]; omega)) only [go_sem, get_miss, seval, reduceCtorEq] <;> with_reducible rfl) ?_ ?_ <;> (intro h; first | (exfalso; omega) | skip))
    | fail)
  all_goals try (first | exact True.intro | exact not_false | omega)
  all_goals try (simp (disch := first | omega | (simp only [go_sem]; omega)) only [go_sem, get_miss, seval, reduceCtorEq] <;> first | exact True.intro | omega)
  all_goals (simp (disch := first | omega | (simp only [go_sem]; omega)) only [go_sem, get_miss, seval, reduceCtorEq])
  all_goals simp

/-! digest -/
end
end Go.Am
