/- The abstract layer: new boxes, build, slices. -/
import Derived.Test.YtbkfnbnechpolaaDoorAmOps2
set_option linter.unusedVariables false
set_option linter.unusedSimpArgs false
namespace Go.Am
open Go
section
variable {P : Program} {G : Nat → Option AVal} {E : Env}

theorem heap_new (w : World) (o : Obj) : (w.alloc o).heap[w.heap.size]? = some o := heap_alloc_new w o

/-- A new box. -/
theorem new_box (hE : Wf G E) (cs : List AVal) (arr : Array Value) (t : TypeId) (h1 : arr.size = cs.length) (h2 : ∀ j (h : j < cs.length), R E cs[j] (arr.getD j undef) ∧ (arr.getD j undef).oneCell' = true) :
    ∃ E', E'.w = E.w.alloc (.cells arr t) ∧ Ext E E' ∧ Wf G E' ∧ E'.S = E.S ++ [.cells cs t] ∧ R E' (.ptr E.S.length 0) (.pointer (some ⟨E.w.heap.size, 0, none⟩)) ∧ E'.mu[E.S.length]? = some (some E.w.heap.size) := by
  obtain ⟨k1, k2⟩ := env_push hE (w' := E.w.alloc (.cells arr t)) (World.grownBy_alloc E.w _ none) E.w.heap.size (Nat.le_refl _) (by simp) (.cells cs t)
    (fun hext => ⟨E.w.heap.size, arr, by rw [← hE.len]; simp, heap_new _ _, h1, fun j hj => ⟨(h2 j hj).1.ext hE hext, (h2 j hj).2⟩⟩)
  have hm : (E.mu ++ [some E.w.heap.size])[E.S.length]? = some (some E.w.heap.size) := by rw [← hE.len]; simp
  exact ⟨_, rfl, k1, k2, rfl, .ptr _ _ _ hm ⟨.cells cs t, by simp, rfl⟩, hm⟩

theorem ofCells_zero {t : TypeId} {i : TI} (hi : i.ok P t) : ∃ inf z, P.info? t = some inf ∧ inf.zero = some z ∧ z.cells.size = i.zero.length ∧ i.zero.length = i.size ∧
    (∀ (E : Env) j (h : j < i.zero.length), R E i.zero[j] (z.cells.getD j undef) ∧ (z.cells.getD j undef).oneCell' = true) ∧ (∀ E : Env, R E (ofCells i i.zero) z) := by
  have hone := hi.one
  obtain ⟨hu, inf, z, hinf, hs, hby, hz, hzz, hzl, hz1, hag, _⟩ := hi
  have hlen : z.cells.size = i.zero.length := by rw [← hzz]; simp
  have key : ∀ (E : Env) j (h : j < i.zero.length), R E i.zero[j] (z.cells.getD j undef) ∧ (z.cells.getD j undef).oneCell' = true := by
    intro E j hj
    have hj' : j < z.cells.size := by omega
    have e1 : i.zero[j] = ofCell (z.cells[j]) := by simp [← hzz]
    have e2 : z.cells.getD j undef = z.cells[j] := by simp [Array.getD, hj']
    rw [e1, e2]
    refine ⟨.ofCell _ _, ?_⟩
    rw [List.all_eq_true] at hz1
    exact hz1 _ (by simp)
  refine ⟨inf, z, hinf, hz, hlen, by rw [← hlen, ← hzl]; simp, key, fun E => ?_⟩
  unfold ofCells
  split
  · next ha =>
    rw [ha] at hag
    split at hag
    · next cs => exact .agg _ _ hlen fun j hj => (key E j hj).1
    · cases hag
  · next ha =>
    have hsz := hone.resolve_left ha
    have hl1 : i.zero.length = 1 := by rw [← hlen, ← hsz, ← hzl]; simp
    have hag' : i.isAgg = false := by simpa using ha
    rw [hag'] at hag
    split at hag
    · cases hag
    · next hne =>
      have hzc : z.cells = #[z] := by
        cases z <;> first | rfl | exact absurd rfl (hne _)
      have := (key E 0 (by omega)).1
      have e : i.zero.headD .any = i.zero[0]'(by omega) := by
        have : ∀ (l : List AVal) (h : l.length = 1), l.headD .any = l[0]'(by omega) := fun l h => by
          match l, h with
          | [c], _ => rfl
        exact this _ hl1
      rw [e]
      simpa [hzc] using this

/-! ### alloc, box -/
theorem alloc_ok {t : TypeId} {i : TI} (hE : Wf G E) (hi : i.ok P t) : ROk G E (E.S ++ [.cells i.zero t]) (.ptr E.S.length 0) ((Instr.alloc t true (.tuple #[])).run P E.w) := by
  obtain ⟨inf, z, hinf, hz, hl, _, hr, _⟩ := ofCells_zero hi
  obtain ⟨E', hw, k1, k2, k3, k4, _⟩ := new_box hE i.zero z.cells t hl (hr E)
  refine ⟨E', _, ?_, k1, k2, k3, k4⟩
  simp [Instr.alloc, zeroValue, typeInfo, hinf, hz, newVar, newRow, newObj, Sem.run, hw]

theorem box_ok {t : TypeId} {n : Nat} (hE : Wf G E) {v : AVal} {x : Value} (hx : R E v x) (hv : v.fits n) : ROk G E (E.S ++ [.cells v.cells t]) (.ptr E.S.length 0) ((Instr.box t x).run P E.w) := by
  obtain ⟨f1, f2, f3⟩ := fits_cells hv hx
  obtain ⟨E', hw, k1, k2, k3, k4, _⟩ := new_box hE v.cells x.cells t (by rw [f1, hv.1]) (fun j hj => by simpa [List.getD, Array.getD_eq_getD_getElem?] using f3 j hj)
  refine ⟨E', _, ?_, k1, k2, k3, k4⟩
  simp [Instr.box, newVar, newRow, newObj, Sem.run, hw]

/-! ### build -/
theorem foldl_putArr (vs : List Value) : ∀ (arr : Array Value) (off k : Nat), (vs.zipIdx k).foldl (fun cs (c, j) => cs.setIfInBounds (off + j) c) arr = putArr arr (off + k) vs := by
  induction vs with
  | nil => intros; rfl
  | cons v vs ih => intro arr off k; simp only [List.zipIdx_cons, List.foldl_cons, ih, putArr]; rfl

theorem zipIdx_foldl (a : Array Value) (arr : Array Value) (off : Nat) : a.zipIdx.foldl (fun cs (c, j) => cs.setIfInBounds (off + j) c) arr = putArr arr off a.toList := by
  rw [← Array.foldl_toList, Array.toList_zipIdx, foldl_putArr]; simp

/-- The parts laid into cells, one behind the other. -/
def fillCells (place : Nat → Option (Nat × Nat)) (bs : List AVal) : List (Nat × AVal) → Option (List AVal)
  | [] => some bs
  | (k, v) :: rest =>
    match place k with
    | none => none
    | some (off, size) => if v.cells.length ≠ size ∨ off + size > bs.length then none else fillCells place (putCells bs off v.cells) rest

theorem fill_ok (place : Nat → Option (Nat × Nat)) : ∀ (ps : List (Nat × AVal)) (qs : List (Nat × Value)) (bs out : List AVal) (arr : Array Value), qs.length = ps.length →
    (∀ j (h : j < ps.length), (qs.getD j (0, undef)).1 = ps[j].1 ∧ R E ps[j].2 (qs.getD j (0, undef)).2 ∧ ∃ n, ps[j].2.fits n) → arr.size = bs.length →
    (∀ j (h : j < bs.length), R E bs[j] (arr.getD j undef) ∧ (arr.getD j undef).oneCell' = true) → fillCells place bs ps = some out →
    ∃ res, Instr.fill place arr qs = some res ∧ res.size = out.length ∧ ∀ j (h : j < out.length), R E out[j] (res.getD j undef) ∧ (res.getD j undef).oneCell' = true := by
  intro ps
  induction ps with
  | nil =>
    intro qs bs out arr hl _ hs hb ho
    have : qs = [] := List.eq_nil_of_length_eq_zero (by simpa using hl)
    subst this
    simp only [fillCells, Option.some.injEq] at ho
    subst ho
    exact ⟨arr, rfl, hs, hb⟩
  | cons p ps ih =>
    intro qs bs out arr hl hq hs hb ho
    match qs, hl, hq with
    | q :: qs, hl, hq =>
      obtain ⟨k, v⟩ := p
      obtain ⟨k', y⟩ := q
      obtain ⟨hk, hr, n, hf⟩ := hq 0 (Nat.succ_pos _)
      simp only [List.getD_cons_zero, List.getElem_cons_zero] at hk hr hf
      subst hk
      obtain ⟨f1, f2, f3⟩ := fits_cells hf hr
      simp only [fillCells] at ho
      simp only [Instr.fill]
      cases hp : place k' with
      | none => simp [hp] at ho
      | some os =>
        obtain ⟨off, size⟩ := os
        simp only [hp] at ho
        split at ho
        · cases ho
        · next hn =>
          have hn1 : v.cells.length = size := Classical.byContradiction fun h => hn (.inl h)
          have hn2 : off + size ≤ bs.length := Nat.le_of_not_lt fun h => hn (.inr h)
          have hvs : y.cells.size = size := by rw [f1, ← hf.1, hn1]
          have hcond : (y.cells.size ≠ size || decide (off + y.cells.size > arr.size)) = false := by simp [hvs]; omega
          have : (decide (y.cells.size ≠ size) || decide (off + y.cells.size > arr.size)) = false := by simpa using hcond
          obtain ⟨res, r1, r2, r3⟩ := ih qs (putCells bs off v.cells) out (putArr arr off y.cells.toList) (by simpa using hl) (fun j hj => hq (j + 1) (Nat.succ_lt_succ hj))
            (by rw [putArr_size, putCells_length, hs])
            (put_rel (Q := fun a u => R E a u ∧ u.oneCell' = true) v.cells y.cells.toList bs arr off (by simp [f1, hf.1]) hs f3 hb) ho
          refine ⟨res, ?_, r2, r3⟩
          have e := zipIdx_foldl y.cells arr off
          simp only [this, Bool.false_eq_true, if_false]
          rw [← e] at r1
          exact r1
    | [], hl, _ => simp at hl

/-- Where the k-th part of a struct or an array lies, and its size. -/
def placeOf (T : TypeId → Option TI) (i : TI) (k : Nat) : Option (Nat × Nat) :=
  match i.d with
  | .array _ e => (T e).map fun j => (k * j.size, j.size)
  | .struct fs => (fs[k]?).bind fun f => (T f.type).map fun j => (f.offset, j.size)
  | _ => none

theorem build_ok {T : TypeId → Option TI} (hT : TOk P T) {t : TypeId} {i : TI} (hE : Wf G E) (ht : T t = some i) (hagg : i.isAgg = true) (hel : ∀ n e, i.d = .array n e → (T e).isSome = true)
    (ps : List (Nat × AVal)) (qs : Array (Nat × Value)) (hl : qs.size = ps.length)
    (hq : ∀ j (h : j < ps.length), (qs.toList.getD j (0, undef)).1 = ps[j].1 ∧ R E ps[j].2 (qs.toList.getD j (0, undef)).2 ∧ ∃ n, ps[j].2.fits n) {out : List AVal}
    (ho : fillCells (placeOf T i) i.zero ps = some out) : ROk G E E.S (.agg out) ((Instr.build t qs).run P E.w) := by
  have hi := hT.ok t i ht
  obtain ⟨inf, z, hinf, hz, hzl, _, hzr, _⟩ := ofCells_zero hi
  obtain ⟨res, r1, r2, r3⟩ := fill_ok (placeOf T i) ps qs.toList i.zero out z.cells (by simpa using hl) hq hzl (hzr E) ho
  obtain ⟨hu, _, _, hinf', _, _, _, _, _, _, _, _⟩ := hi
  have hb : P.built t qs.toList = some res := by
    unfold Program.built
    simp only [hinf, hu]
    cases hd : i.d <;> simp only [TI.isAgg, hd, isAggD] at hagg <;> try (cases hagg; done)
    case array n e =>
      obtain ⟨j, hj⟩ := Option.isSome_iff_exists.1 (hel n e hd)
      obtain ⟨_, infe, _, hinfe, hse, _, _, _, _, _, _, _⟩ := hT.ok e j hj
      simp only [hinfe, hz, hse]
      rw [← r1]
      congr 1
      funext k
      simp [placeOf, hd, hj]
    case struct fs =>
      have hall := hT.closed t i fs ht hd
      have hp : ∀ (l : List Field), (∀ f ∈ l, (T f.type).isSome = true) → l.mapM (fun f => (P.info? f.type).map fun i => (f.offset, i.size)) = some (l.map fun f => (f.offset, ((T f.type).getD ⟨.invalid, 0, 0, []⟩).size)) := by
        intro l
        induction l with
        | nil => intro _; rfl
        | cons f l ih =>
          intro h
          obtain ⟨j, hj⟩ := Option.isSome_iff_exists.1 (h f (List.mem_cons_self ..))
          obtain ⟨_, inff, _, hinff, hsf, _, _, _, _, _, _, _⟩ := hT.ok _ j hj
          simp [List.mapM_cons, ih (fun g hg => h g (List.mem_cons_of_mem _ hg)), hinff, hj, hsf]
      simp only [hp fs.toList hall, hz]
      rw [← r1]
      congr 1
      funext k
      simp only [placeOf, hd]
      rcases hk : fs[k]? with _ | f
      · simp [hk]
      · have hmem : f ∈ fs.toList := by
          obtain ⟨hlt, he⟩ := Array.getElem?_eq_some_iff.1 hk
          simp [← he]
        obtain ⟨j, hj⟩ := Option.isSome_iff_exists.1 (hall f hmem)
        simp [hk, hj]
  exact .pure hE (run_build E.w t qs res hb) (.agg _ _ r2 fun j hj => (r3 j hj).1)
end
end Go.Am
