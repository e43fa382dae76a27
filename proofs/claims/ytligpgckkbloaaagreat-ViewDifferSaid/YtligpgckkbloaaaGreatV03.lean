/- View chapter: whether two views, two realms' views, are the same. -/
import Derived.Test.YtligpgckkbloaaaGreatV02
set_option linter.unusedVariables false
set_option linter.unusedSimpArgs false
namespace Go.Am
open Go Go.Proofs
set_option maxHeartbeats 8000000
set_option maxRecDepth 100000
section
attribute [local irreducible] aC aL thenQ blockQ scopeQ ALoop AWp
structure Vw where
  s : List Int
  h : List Int
  b : List (List UInt8)
structure Vw.Ok (v : Vw) : Prop where
  s1 : v.s.length ≤ 200
  h1 : v.h.length ≤ 200
  b1 : v.b.length ≤ 200
  b2 : ∀ x ∈ v.b, x.length = 128
def vwC (v : Vw) (n0 n1 n2 : Bool) : List AVal := [.sl 1 n0 (il v.s) .any, .sl 1 n1 (il v.h) .any, .sl 128 n2 (els bl v.b) .any]
structure Ow where
  i : Nat
  s : Int
  m : List UInt8
  c : Nat
  p : List Pg
  r : List Rc
structure Ow.Ok (o : Ow) : Prop where
  m32 : o.m.length = 32
  p1 : o.p.length ≤ 200
  r1 : o.r.length ≤ 200
  p2 : ∀ x ∈ o.p, x.Ok
  r2 : ∀ x ∈ o.r, x.Ok
def sameVw (a b : Vw) : Bool := decide (a.s = b.s) && (decide (a.h = b.h) && decide (a.b = b.b))
theorem gr_sz (x : List UInt8) (h : x.length = 128) : (bl x).length = 128 := by rw [length_bl, h]
theorem gr_inj (x y : List UInt8) (hx : x.length = 128) (hy : y.length = 128) (h : bl x = bl y) : x = y := bl_inj h
theorem gr_z (x : List UInt8) (h : x.length = 128) : skbs (bl x) (bl (List.replicate 128 0)) = true := skbs_by (by rw [h]; rfl)
@[simp] theorem closed_pgC (p : Pg) : (∀ c ∈ pgC p, Closed c) ↔ True := ⟨fun _ => trivial, fun _ => by simp [pgC]⟩
@[simp] theorem closed_rcC (p : Rc) : (∀ c ∈ rcC p, Closed c) ↔ True := ⟨fun _ => trivial, fun _ => by simp [rcC, or_imp, forall_and]⟩
@[simp] theorem closed_els2 {α : Type} (enc : α → List AVal) (he : ∀ x, (∀ c ∈ enc x, Closed c) ↔ True) (l : List α) : (∀ x ∈ els enc l, Closed x) ↔ True := by
  rw [closed_els]; exact ⟨fun _ => trivial, fun _ x _ => (he x).2 trivial⟩
theorem same_view (a b : Vw) (ha : a.Ok) (hb : b.Ok) (n0 n1 n2 m0 m1 m2 : Bool) :
    APure cx 7 [.agg (vwC a n0 n1 n2), .agg (vwC b m0 m1 m2)] (.bool (sameVw a b)) := by
  have e1 := equal_gs n0 m0 a.s b.s (Nat.le_trans ha.s1 (by decide)) (Nat.le_trans hb.s1 (by decide))
  have e2 := equal_int n1 m1 a.h b.h (Nat.le_trans ha.h1 (by decide)) (Nat.le_trans hb.h1 (by decide))
  have e3 := equal_gr bl (fun x => x.length = 128) gr_sz gr_inj gr_z n2 m2 a.b b.b ha.b2 hb.b2 (Nat.le_trans ha.b1 (by decide)) (Nat.le_trans hb.b1 (by decide))
  unfold vwC sameVw
  generalize decide (a.s = b.s) = p at *
  generalize decide (a.h = b.h) = q at *
  generalize decide (a.b = b.b) = r at *
  rcases p with _ | _ <;> rcases q with _ | _
  all_goals
    refine pure_fnK cxOk Tryz.func7 (fun _ => false) (fe7.q) (by kernel_rfl) (by dsimp only [Tryz.f7, go_sem, seval, liteO, Option.map, List.map]; exact .mk _) ?_
    dsimp only [Tryz.f7, frame0, List.zipIdx, List.map, Nat.reduceAdd]
    try simp only [List.getElem?_toArray, List.getElem?_cons_succ, List.getElem?_cons_zero, Option.bind_some]
    repeat' (first | refine aC_seq ?_ | refine aC_reg rfl ?_ | refine aC_block ?_ | refine aC_skip ?_ | refine aC_loop ?_ | refine aC_scope ?_ | refine scopeQ_normal ?_ | refine scopeQ_exit ?_ | refine scopeQ_ret ?_ | refine aC_exit ?_ | refine aC_ret ?_ | refine thenQ_normal ?_ | refine blockQ_normal ?_ | refine thenQ_ret ?_ | refine blockQ_ret ?_ | refine thenQ_exit ?_ | refine blockQ_hit ?_ | refine blockQ_miss rfl ?_ | refine aL_nil ?_ | (apply aL_step; (· exact True.intro); (iterate 2 (· simp (disch := first | omega | (simp only [go_sem]; omega)) only [go_sem, seval, reduceCtorEq, ] <;> with_reducible rfl)); (· simp only [go_sem] <;> with_reducible rfl)) | (refine aL_skip ?_ (by simp only [go_sem] <;> with_reducible rfl) ?_; (· simp (disch := first | omega | (simp only [go_sem]; omega)) only [go_sem, seval, reduceCtorEq, ])) | (apply aL_guardN; (· simp (disch := first | omega | (simp only [go_sem]; omega)) only [go_sem, seval, reduceCtorEq, ] <;> with_reducible rfl); all_goals (intro h; first | (exfalso; omega) | (simp only [h, decide_true, decide_false, not_true, not_false_iff]))) | (apply aL_guardP; (· simp (disch := first | omega | (simp only [go_sem]; omega)) only [go_sem, seval, reduceCtorEq, ] <;> with_reducible rfl); all_goals (intro h; first | (exfalso; omega) | (simp only [h, decide_true, decide_false, not_true, not_false_iff]))) | (refine aC_condT ?_ ?_; (· simp (disch := first | omega | (simp only [go_sem]; omega)) only [go_sem, seval, reduceCtorEq, ])) | (refine aC_condF ?_ ?_; (· simp (disch := first | omega | (simp only [go_sem]; omega)) only [go_sem, seval, reduceCtorEq, ])) | (refine aC_condP (by simp (disch := first | omega | (simp only [go_sem]; omega)) only [go_sem, seval, reduceCtorEq, ] <;> with_reducible rfl) ?_ ?_ <;> (intro h; first | (exfalso; omega) | skip)) | (apply aL_pK cxG (e1); (iterate 2 (· simp (disch := first | omega | (simp only [go_sem]; omega)) only [go_sem, seval, reduceCtorEq, ] <;> with_reducible rfl)); (· simp only [go_sem] <;> with_reducible rfl); (· simp)) | (apply aL_pure cxG (e1); (case hg => (simp (disch := first | omega | (simp only [go_sem]; omega)) only [go_sem, seval, reduceCtorEq, ])); (case hx => (simp (disch := first | omega | (simp only [go_sem]; omega)) only [go_sem, seval, reduceCtorEq, ] <;> with_reducible rfl)); (case ha => (simp (disch := first | omega | (simp only [go_sem]; omega)) only [go_sem, seval, reduceCtorEq, ] <;> with_reducible rfl)); (case he => (simp only [go_sem] <;> with_reducible rfl)); (case hcl => (simp)); (case hf => (simp only [go_sem] <;> with_reducible rfl))) | (apply aL_pK cxG (e2); (iterate 2 (· simp (disch := first | omega | (simp only [go_sem]; omega)) only [go_sem, seval, reduceCtorEq, ] <;> with_reducible rfl)); (· simp only [go_sem] <;> with_reducible rfl); (· simp)) | (apply aL_pure cxG (e2); (case hg => (simp (disch := first | omega | (simp only [go_sem]; omega)) only [go_sem, seval, reduceCtorEq, ])); (case hx => (simp (disch := first | omega | (simp only [go_sem]; omega)) only [go_sem, seval, reduceCtorEq, ] <;> with_reducible rfl)); (case ha => (simp (disch := first | omega | (simp only [go_sem]; omega)) only [go_sem, seval, reduceCtorEq, ] <;> with_reducible rfl)); (case he => (simp only [go_sem] <;> with_reducible rfl)); (case hcl => (simp)); (case hf => (simp only [go_sem] <;> with_reducible rfl))) | (apply aL_pK cxG (e3); (iterate 2 (· simp (disch := first | omega | (simp only [go_sem]; omega)) only [go_sem, seval, reduceCtorEq, ] <;> with_reducible rfl)); (· simp only [go_sem] <;> with_reducible rfl); (· simp)) | (apply aL_pure cxG (e3); (case hg => (simp (disch := first | omega | (simp only [go_sem]; omega)) only [go_sem, seval, reduceCtorEq, ])); (case hx => (simp (disch := first | omega | (simp only [go_sem]; omega)) only [go_sem, seval, reduceCtorEq, ] <;> with_reducible rfl)); (case ha => (simp (disch := first | omega | (simp only [go_sem]; omega)) only [go_sem, seval, reduceCtorEq, ] <;> with_reducible rfl)); (case he => (simp only [go_sem] <;> with_reducible rfl)); (case hcl => (simp)); (case hf => (simp only [go_sem] <;> with_reducible rfl))) | fail)
    all_goals try (first | exact True.intro | exact not_false | omega | (simp (disch := first | omega | (simp only [go_sem]; omega)) only [go_sem, seval, reduceCtorEq] <;> omega))
    all_goals try (simp (disch := first | omega | (simp only [go_sem]; omega)) only [go_sem, seval, reduceCtorEq])
    all_goals try simp
end
end Go.Am
