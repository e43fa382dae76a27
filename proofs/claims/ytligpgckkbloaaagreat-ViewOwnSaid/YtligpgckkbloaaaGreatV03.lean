/- View chapter: whether two views, two realms' views, are the same. -/
import Derived.Test.YtligpgckkbloaaaGreatV02
set_option linter.unusedVariables false
set_option linter.unusedSimpArgs false
namespace Go.Am
open Go Go.Proofs
set_option maxHeartbeats 8000000
set_option maxRecDepth 100000
section
attribute [local irreducible] aC aL thenQ blockQ scopeQ ALoop AWp
structure Vw where
  s : List Int
  h : List Int
  b : List (List UInt8)
structure Vw.Ok (v : Vw) : Prop where
  s1 : v.s.length ≤ 200
  h1 : v.h.length ≤ 200
  b1 : v.b.length ≤ 200
  b2 : ∀ x ∈ v.b, x.length = 128
structure Ow where
  i : Nat
  s : Int
  m : List UInt8
  c : Nat
  p : List Pg
  r : List Rc
structure Ow.Ok (o : Ow) : Prop where
  m32 : o.m.length = 32
  p1 : o.p.length ≤ 200
  r1 : o.r.length ≤ 200
  p2 : ∀ x ∈ o.p, x.Ok
  r2 : ∀ x ∈ o.r, x.Ok
def owC (o : Ow) (n1 n2 : Bool) : List AVal := .int .u64 (o.i : Nat) :: .int .i64 o.s :: (bl o.m ++ [.int .u64 (o.c : Nat), .sl 129 n1 (els pgC o.p) .any, .sl 14 n2 (els rcC o.r) .any])
def sameOw (a b : Ow) : Bool := decide (a.i = b.i) && (decide (a.s = b.s) && (decide (a.m = b.m) && (decide (a.c = b.c) && (decide (a.p = b.p) && decide (a.r = b.r)))))
theorem drop32 {m : List UInt8} (h : m.length = 32) (n : Nat) (r : List AVal) : (bl m ++ r).drop (n + 32) = r.drop n := by
  rw [List.drop_append, List.drop_eq_nil_of_le (by rw [length_bl]; omega), length_bl, h]; simp
theorem take32 {m : List UInt8} (h : m.length = 32) (r : List AVal) : (bl m ++ r).take 32 = bl m := by
  rw [List.take_append_of_le_length (by rw [length_bl]; omega), List.take_of_length_le (by rw [length_bl]; omega)]
theorem get32 {m : List UInt8} (h : m.length = 32) (n : Nat) (r : List AVal) : (bl m ++ r)[n + 32]? = r[n]? := by
  rw [List.getElem?_append_right (by rw [length_bl]; omega), length_bl, h]; simp
theorem pg_inj (p q : Pg) (hp : p.Ok) (hq : q.Ok) (h : pgC p = pgC q) : p = q := by
  have e := pg_eq p q hp hq
  have e2 := pg_eq q q hq hq
  rw [h] at e
  rw [e] at e2
  simpa using e2
theorem rc_inj (p q : Rc) (hp : p.Ok) (hq : q.Ok) (h : rcC p = rcC q) : p = q := by
  have e := rc_eq p q hp hq
  have e2 := rc_eq q q hq hq
  rw [h] at e
  rw [e] at e2
  simpa using e2
theorem pg_z (p : Pg) (h : p.Ok) : skbs (pgC p) (.int .i64 0 :: bl (List.replicate 128 0)) = true := pg_sk p ⟨0, List.replicate 128 0⟩ h rfl
theorem rc_z (p : Rc) (h : p.Ok) : skbs (rcC p) (rcC ⟨0, 0, 0, List.replicate 8 0, 0, false, 0⟩) = true := rc_sk p _ h rfl
@[simp] theorem closed_pgC (p : Pg) : (∀ c ∈ pgC p, Closed c) ↔ True := ⟨fun _ => trivial, fun _ => by simp [pgC]⟩
@[simp] theorem closed_rcC (p : Rc) : (∀ c ∈ rcC p, Closed c) ↔ True := ⟨fun _ => trivial, fun _ => by simp [rcC, or_imp, forall_and]⟩
@[simp] theorem closed_els2 {α : Type} (enc : α → List AVal) (he : ∀ x, (∀ c ∈ enc x, Closed c) ↔ True) (l : List α) : (∀ x ∈ els enc l, Closed x) ↔ True := by
  rw [closed_els]; exact ⟨fun _ => trivial, fun _ x _ => (he x).2 trivial⟩
theorem same_own (a b : Ow) (ha : a.Ok) (hb : b.Ok) (n1 n2 m1 m2 : Bool) :
    APure cx 8 [.agg (owC a n1 n2), .agg (owC b m1 m2)] (.bool (sameOw a b)) := by
  have e1 := equal_pg pgC Pg.Ok pg_sz pg_inj pg_z n1 m1 a.p b.p ha.p2 hb.p2 (Nat.le_trans ha.p1 (by decide)) (Nat.le_trans hb.p1 (by decide))
  have e2 := equal_rc rcC Rc.Ok rc_sz rc_inj rc_z n2 m2 a.r b.r ha.r2 hb.r2 (Nat.le_trans ha.r1 (by decide)) (Nat.le_trans hb.r1 (by decide))
  have hm := ha.m32
  have hm' := hb.m32
  have j1 := drop32 hm
  have j2 := drop32 hm'
  have j3 := get32 hm
  have j4 := get32 hm'
  have j5 := take32 hm
  have j6 := take32 hm'
  have z1 : skbs (bl a.m) (bl (List.replicate 32 0)) = true := skbs_by (by rw [hm]; rfl)
  have z2 : skbs (bl b.m) (bl (List.replicate 32 0)) = true := skbs_by (by rw [hm']; rfl)
  have ei : decide (a.i = b.i) = decide ((a.i : Int) = (b.i : Int)) := decide_eq_decide.2 (by omega)
  have ec : decide (a.c = b.c) = decide ((a.c : Int) = (b.c : Int)) := decide_eq_decide.2 (by omega)
  unfold owC sameOw
  rw [ei, ec]
  clear ha hb ei ec
  obtain ⟨i, s, m, c, p, r⟩ := a
  obtain ⟨i', s', m', c', p', r'⟩ := b
  simp only at *
  generalize decide (p = p') = P at *
  generalize decide (r = r') = R at *
  generalize hbi : decide ((i : Int) = (i' : Int)) = bi
  generalize hbs : decide (s = s') = bs
  have hbm : (bl m = bl m') = (decide (m = m') = true) := by rw [decide_eq_true_iff]; exact propext ⟨bl_inj, fun e => by rw [e]⟩
  generalize decide (m = m') = bm at *
  generalize hbc : decide ((c : Int) = (c' : Int)) = bc
  have h : bi = false ∨ (bi = true ∧ bs = false) ∨ (bi = true ∧ bs = true ∧ bm = false) ∨ (bi = true ∧ bs = true ∧ bm = true ∧ bc = false) ∨ (bi = true ∧ bs = true ∧ bm = true ∧ bc = true ∧ P = false) ∨ (bi = true ∧ bs = true ∧ bm = true ∧ bc = true ∧ P = true) := by
    cases bi <;> cases bs <;> cases bm <;> cases bc <;> cases P <;> simp
  rcases h with rfl | ⟨rfl, rfl⟩ | ⟨rfl, rfl, rfl⟩ | ⟨rfl, rfl, rfl, rfl⟩ | ⟨rfl, rfl, rfl, rfl, rfl⟩ | ⟨rfl, rfl, rfl, rfl, rfl⟩
  all_goals
    refine pure_fnK cxOk Tryz.func8 (fun _ => false) (fe8.q) (by kernel_rfl) (by dsimp only [Tryz.f8, go_sem, seval, liteO, Option.map, List.map]; exact .mk _) ?_
    dsimp only [Tryz.f8, frame0, List.zipIdx, List.map, Nat.reduceAdd]
    try simp only [List.getElem?_toArray, List.getElem?_cons_succ, List.getElem?_cons_zero, Option.bind_some]
    repeat' (first | refine aC_seq ?_ | refine aC_reg rfl ?_ | refine aC_block ?_ | refine aC_skip ?_ | refine aC_loop ?_ | refine aC_scope ?_ | refine scopeQ_normal ?_ | refine scopeQ_exit ?_ | refine scopeQ_ret ?_ | refine aC_exit ?_ | refine aC_ret ?_ | refine thenQ_normal ?_ | refine blockQ_normal ?_ | refine thenQ_ret ?_ | refine blockQ_ret ?_ | refine thenQ_exit ?_ | refine blockQ_hit ?_ | refine blockQ_miss rfl ?_ | refine aL_nil ?_ | (apply aL_step; (· exact True.intro); (iterate 2 (· simp (disch := first | omega | (simp only [go_sem]; omega)) only [go_sem, seval, reduceCtorEq, hbi, hbs, hbm, hbc, eq_self_iff_true, decide_true, decide_false, reduceCtorEq, hm, hm', j1, j2, j3, j4, j5, j6] <;> with_reducible rfl)); (· simp only [go_sem] <;> with_reducible rfl)) | (refine aL_skip ?_ (by simp only [go_sem] <;> with_reducible rfl) ?_; (· simp (disch := first | omega | (simp only [go_sem]; omega)) only [go_sem, seval, reduceCtorEq, hbi, hbs, hbm, hbc, eq_self_iff_true, decide_true, decide_false, reduceCtorEq, hm, hm', j1, j2, j3, j4, j5, j6])) | (apply aL_guardN; (· simp (disch := first | omega | (simp only [go_sem]; omega)) only [go_sem, seval, reduceCtorEq, hbi, hbs, hbm, hbc, eq_self_iff_true, decide_true, decide_false, reduceCtorEq, hm, hm', j1, j2, j3, j4, j5, j6] <;> with_reducible rfl); all_goals (intro h; first | (exfalso; omega) | (simp only [h, decide_true, decide_false, not_true, not_false_iff]))) | (apply aL_guardP; (· simp (disch := first | omega | (simp only [go_sem]; omega)) only [go_sem, seval, reduceCtorEq, hbi, hbs, hbm, hbc, eq_self_iff_true, decide_true, decide_false, reduceCtorEq, hm, hm', j1, j2, j3, j4, j5, j6] <;> with_reducible rfl); all_goals (intro h; first | (exfalso; omega) | (simp only [h, decide_true, decide_false, not_true, not_false_iff]))) | (refine aC_condT ?_ ?_; (· simp (disch := first | omega | (simp only [go_sem]; omega)) only [go_sem, seval, reduceCtorEq, hbi, hbs, hbm, hbc, eq_self_iff_true, decide_true, decide_false, reduceCtorEq, hm, hm', j1, j2, j3, j4, j5, j6])) | (refine aC_condF ?_ ?_; (· simp (disch := first | omega | (simp only [go_sem]; omega)) only [go_sem, seval, reduceCtorEq, hbi, hbs, hbm, hbc, eq_self_iff_true, decide_true, decide_false, reduceCtorEq, hm, hm', j1, j2, j3, j4, j5, j6])) | (refine aC_condP (by simp (disch := first | omega | (simp only [go_sem]; omega)) only [go_sem, seval, reduceCtorEq, hbi, hbs, hbm, hbc, eq_self_iff_true, decide_true, decide_false, reduceCtorEq, hm, hm', j1, j2, j3, j4, j5, j6] <;> with_reducible rfl) ?_ ?_ <;> (intro h; first | (exfalso; omega) | skip)) | (apply aL_pK cxG (e1); (iterate 2 (· simp (disch := first | omega | (simp only [go_sem]; omega)) only [go_sem, seval, reduceCtorEq, hbi, hbs, hbm, hbc, eq_self_iff_true, decide_true, decide_false, reduceCtorEq, hm, hm', j1, j2, j3, j4, j5, j6] <;> with_reducible rfl)); (· simp only [go_sem] <;> with_reducible rfl); (· simp)) | (apply aL_pure cxG (e1); (case hg => (simp (disch := first | omega | (simp only [go_sem]; omega)) only [go_sem, seval, reduceCtorEq, hbi, hbs, hbm, hbc, eq_self_iff_true, decide_true, decide_false, reduceCtorEq, hm, hm', j1, j2, j3, j4, j5, j6])); (case hx => (simp (disch := first | omega | (simp only [go_sem]; omega)) only [go_sem, seval, reduceCtorEq, hbi, hbs, hbm, hbc, eq_self_iff_true, decide_true, decide_false, reduceCtorEq, hm, hm', j1, j2, j3, j4, j5, j6] <;> with_reducible rfl)); (case ha => (simp (disch := first | omega | (simp only [go_sem]; omega)) only [go_sem, seval, reduceCtorEq, hbi, hbs, hbm, hbc, eq_self_iff_true, decide_true, decide_false, reduceCtorEq, hm, hm', j1, j2, j3, j4, j5, j6] <;> with_reducible rfl)); (case he => (simp only [go_sem] <;> with_reducible rfl)); (case hcl => (simp)); (case hf => (simp only [go_sem] <;> with_reducible rfl))) | (apply aL_pK cxG (e2); (iterate 2 (· simp (disch := first | omega | (simp only [go_sem]; omega)) only [go_sem, seval, reduceCtorEq, hbi, hbs, hbm, hbc, eq_self_iff_true, decide_true, decide_false, reduceCtorEq, hm, hm', j1, j2, j3, j4, j5, j6] <;> with_reducible rfl)); (· simp only [go_sem] <;> with_reducible rfl); (· simp)) | (apply aL_pure cxG (e2); (case hg => (simp (disch := first | omega | (simp only [go_sem]; omega)) only [go_sem, seval, reduceCtorEq, hbi, hbs, hbm, hbc, eq_self_iff_true, decide_true, decide_false, reduceCtorEq, hm, hm', j1, j2, j3, j4, j5, j6])); (case hx => (simp (disch := first | omega | (simp only [go_sem]; omega)) only [go_sem, seval, reduceCtorEq, hbi, hbs, hbm, hbc, eq_self_iff_true, decide_true, decide_false, reduceCtorEq, hm, hm', j1, j2, j3, j4, j5, j6] <;> with_reducible rfl)); (case ha => (simp (disch := first | omega | (simp only [go_sem]; omega)) only [go_sem, seval, reduceCtorEq, hbi, hbs, hbm, hbc, eq_self_iff_true, decide_true, decide_false, reduceCtorEq, hm, hm', j1, j2, j3, j4, j5, j6] <;> with_reducible rfl)); (case he => (simp only [go_sem] <;> with_reducible rfl)); (case hcl => (simp)); (case hf => (simp only [go_sem] <;> with_reducible rfl))) | fail)
    all_goals try (first | exact True.intro | exact not_false | omega | (simp (disch := first | omega | (simp only [go_sem]; omega)) only [go_sem, seval, reduceCtorEq] <;> omega))
    all_goals try (exact ⟨by kernel_rfl, by kernel_rfl, z1, z2⟩)
    all_goals try (simp (disch := first | omega | (simp only [go_sem]; omega)) only [go_sem, seval, reduceCtorEq])
    all_goals try (exact ⟨by kernel_rfl, by kernel_rfl, z1, z2⟩)
    all_goals try simp
    all_goals (intro x hx; rcases hx with hx | rfl | rfl | rfl; (· obtain ⟨b, _, rfl⟩ := List.mem_map.1 hx; rfl); all_goals rfl)
end
end Go.Am
