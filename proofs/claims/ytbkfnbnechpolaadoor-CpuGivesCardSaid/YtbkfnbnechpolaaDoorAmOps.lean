/- The abstract layer, third part: one lemma an operation. -/
import Derived.Test.YtbkfnbnechpolaaDoorAmBase
set_option linter.unusedVariables false
set_option linter.unusedSimpArgs false
namespace Go.Am
open Go
section
variable {P : Program} {G : Nat → Option AVal} {E : Env}

theorem TI.ok.one {t : TypeId} {i : TI} (h : i.ok P t) : i.isAgg = true ∨ i.size = 1 := by
  obtain ⟨_, _, _, _, _, _, _, _, _, _, _, h⟩ := h
  simpa using h

/-! ### load -/
theorem load_core {t : TypeId} {i : TI} (hi : i.ok P t) (ad : Addr) (cs : List AVal) (f : Nat → Value) (hlen : i.size ≤ cs.length)
    (hc : ∀ j, j < cs.length → E.w.cell? (ad.add j) = some (f j)) (hr : ∀ j (h : j < cs.length), R E cs[j] (f j)) :
    ∃ x, (Instr.loadAt t (.pointer (some ad))).run P E.w = .ok x E.w ∧ R E (ofCells i (cs.take i.size)) x := by
  have h1 := hi.one
  obtain ⟨hu, inf, z, hinf, hs, _, _, _, _, _, _, _⟩ := hi
  simp only [Instr.loadAt, Instr.sureAddr, Sem.run_bind, Sem.run_pure, Result.andThen_ok, loadVar, run_isAgg hu]
  by_cases ha : i.isAgg = true
  · have ha' : isAggD i.d = true := ha
    have hl := run_loadCells (P := P) E.w ad i.size f (fun j hj => hc j (by omega))
    simp only [ha', if_true, run_sizeOf hinf, hs, hl, Sem.run_bind, Sem.run_pure, Result.andThen_ok]
    refine ⟨_, rfl, ?_⟩
    unfold ofCells
    rw [if_pos ha]
    refine .agg _ _ (by simp; omega) fun j hj => ?_
    simp only [List.length_take] at hj
    have hj' : j < cs.length := by omega
    have hj2 : j < i.size := by omega
    simpa [Array.getD, hj2] using hr j hj'
  · have hsz : i.size = 1 := h1.resolve_left ha
    have ha' : isAggD i.d = false := by simpa [TI.isAgg] using ha
    have h0 := hc 0 (by omega)
    have e0 : ad.add 0 = ad := rfl
    rw [e0] at h0
    simp only [ha', Bool.false_eq_true, if_false, run_load, h0]
    refine ⟨_, rfl, ?_⟩
    unfold ofCells
    rw [if_neg ha, hsz]
    match cs, hr, hlen with
    | c :: cs, hr, _ => exact hr 0 (by simp)
    | [], _, hlen => simp [hsz] at hlen

theorem load_cptr {t : TypeId} {i : TI} (hE : Wf G E) (hi : i.ok P t) {cs : List AVal} {x : Value} (hx : R E (.cptr cs) x) (hlen : i.size ≤ cs.length) :
    ROk G E E.S (ofCells i (cs.take i.size)) ((Instr.loadAt t x).run P E.w) := by
  cases hx with
  | cptr _ ad f hf hr =>
    obtain ⟨y, h1, h2⟩ := load_core hi ad cs f hlen (fun j hj => (hf j hj).2.1) hr
    exact .pure hE h1 h2

theorem load_ptr {t : TypeId} {i : TI} (hE : Wf G E) (hi : i.ok P t) {b off : Nat} {bs : List AVal} {tb : TypeId} {x : Value} (hx : R E (.ptr b off) x)
    (hS : E.S[b]? = some (.cells bs tb)) (hlen : off + i.size ≤ bs.length) :
    ROk G E E.S (ofCells i ((bs.drop off).take i.size)) ((Instr.loadAt t x).run P E.w) := by
  cases hx with
  | ptr _ _ c hm hb =>
    obtain ⟨c', arr, h1, h2, h3, h4⟩ := hE.entry b _ hS
    have : c' = c := by rw [hm] at h1; injection h1 with h1; injection h1 with h1; exact h1.symm
    subst this
    obtain ⟨y, e1, e2⟩ := load_core (E := E) hi ⟨c', off, none⟩ (bs.drop off) (fun j => arr.getD (off + j) undef) (by rw [List.length_drop]; omega)
      (fun j hj => by
        rw [List.length_drop] at hj
        rw [add_form _ _ rfl]
        have : off + j < arr.size := by omega
        simp [World.cell?, h2, Array.getD, this])
      (fun j hj => by
        rw [List.length_drop] at hj
        have := (h4 (off + j) (by omega)).1
        simpa using this)
    exact .pure hE e1 e2

/-! ### store -/
def putCells (bs : List AVal) (off : Nat) : List AVal → List AVal
  | [] => bs
  | c :: cs => putCells (bs.set off c) (off + 1) cs

theorem putCells_length (cs : List AVal) : ∀ (bs : List AVal) (off : Nat), (putCells bs off cs).length = bs.length := by
  induction cs with
  | nil => intros; rfl
  | cons c cs ih => intro bs off; simp [putCells, ih]

def putArr (arr : Array Value) (off : Nat) : List Value → Array Value
  | [] => arr
  | c :: cs => putArr (arr.setIfInBounds off c) (off + 1) cs

theorem putArr_size (cs : List Value) : ∀ (arr : Array Value) (off : Nat), (putArr arr off cs).size = arr.size := by
  induction cs with
  | nil => intros; rfl
  | cons c cs ih => intro bs off; simp [putArr, ih]

theorem put_rel {Q : AVal → Value → Prop} (cs : List AVal) : ∀ (vs : List Value) (bs : List AVal) (arr : Array Value) (off : Nat), vs.length = cs.length → arr.size = bs.length →
    (∀ j (h : j < cs.length), Q cs[j] (vs.getD j undef)) → (∀ j (h : j < bs.length), Q bs[j] (arr.getD j undef)) →
    ∀ j (h : j < (putCells bs off cs).length), Q (putCells bs off cs)[j] ((putArr arr off vs).getD j undef) := by
  induction cs with
  | nil =>
    intro vs bs arr off hl hs hc hb
    have : vs = [] := List.eq_nil_of_length_eq_zero (by simpa using hl)
    subst this
    exact hb
  | cons c cs ih =>
    intro vs bs arr off hl hs hc hb
    match vs, hl, hc with
    | v :: vs, hl, hc =>
      refine ih vs (bs.set off c) (arr.setIfInBounds off v) (off + 1) (by simpa using hl) (by simpa using hs) (fun j hj => hc (j + 1) (Nat.succ_lt_succ hj)) ?_
      intro j hj
      rw [List.length_set] at hj
      by_cases e : off = j
      · subst e
        have hj' : off < arr.size := by omega
        have h0 : Q c v := hc 0 (Nat.succ_pos _)
        simpa [Array.getD, hj'] using h0
      · have := hb j hj
        have e2 : (arr.setIfInBounds off v).getD j undef = arr.getD j undef := by
          simp only [Array.getD_eq_getD_getElem?]
          rw [Array.getElem?_setIfInBounds_ne e]
        rw [e2, List.getElem_set_ne e]
        exact this
    | [], hl, _ => simp at hl

theorem run_storeCells_put (g : Nat) (t : TypeId) : ∀ (vs : List Value) (o k : Nat) (cur : Array Value) (w : World), w.heap[g]? = some (.cells cur t (0, 0)) → o + k + vs.length ≤ cur.size →
    (∀ v ∈ vs, v.oneCell' = true) → ∃ w', (storeCells ⟨g, o, none⟩ vs k).run P w = .ok () w' ∧ w'.heap[g]? = some (.cells (putArr cur (o + k) vs) t (0, 0)) ∧ w.grownBy w' (some g) ∧ w'.heap.size = w.heap.size := by
  intro vs
  induction vs with
  | nil => intro o k cur w hg _ _; exact ⟨w, rfl, hg, ⟨rfl, rfl, rfl, Nat.le_refl _, fun _ _ _ => rfl⟩, rfl⟩
  | cons v vs ih =>
    intro o k cur w hg hl h1
    have hlt : o + k < cur.size := by simp at hl; omega
    have hgl : g < w.heap.size := by
      rcases Nat.lt_or_ge g w.heap.size with h | h
      · exact h
      · rw [Array.getElem?_eq_none h] at hg; cases hg
    have hcell : w.cell? ⟨g, o + k, none⟩ = some (cur[o + k]) := by simp [World.cell?, hg, hlt]
    have hfr : w.frozen? ⟨g, o + k, none⟩ = false := by simp [World.frozen?, hg]
    have hset : (w.setCell ⟨g, o + k, none⟩ v).heap[g]? = some (.cells (cur.setIfInBounds (o + k) v) t (0, 0)) := by
      simp [World.setCell, Array.getElem?_modify, hg]
    obtain ⟨w', e1, e2, e3, e4⟩ := ih o (k + 1) (cur.setIfInBounds (o + k) v) (w.setCell ⟨g, o + k, none⟩ v) hset (by simp at hl ⊢; omega) (fun x hx => h1 x (List.mem_cons_of_mem _ hx))
    refine ⟨w', ?_, ?_, ?_, ?_⟩
    · simp only [storeCells, Sem.run_bind, add_form ⟨g, o, none⟩ k rfl, run_store P w _ v .plain (h1 v (List.mem_cons_self ..)), hcell, hfr, Bool.false_eq_true, if_false, Result.andThen_ok, e1]
    · rw [e2]; rfl
    · refine ⟨e3.os, e3.tape, e3.output, Nat.le_trans (by simp [World.setCell]) e3.size, fun j hj hne => ?_⟩
      have := e3.block j (by simpa [World.setCell] using hj) hne
      rw [this]
      exact Go.RowKit.Below.heap_setCell w ⟨g, o + k, none⟩ v j (by simpa using hne)
    · rw [e4]; simp [World.setCell]

theorem run_storeAt {t : TypeId} {i : TI} (hi : i.ok P t) (g o : Nat) (te : TypeId) (cur : Array Value) (w : World) (hg : w.heap[g]? = some (.cells cur te (0, 0))) (v : Value) (hv : v.cells.size = i.size) (hl : o + i.size ≤ cur.size)
    (h1 : ∀ c ∈ v.cells.toList, c.oneCell' = true) :
    ∃ w', (Instr.storeAt t (.pointer (some ⟨g, o, none⟩)) v).run P w = .ok () w' ∧ w'.heap[g]? = some (.cells (putArr cur o v.cells.toList) te (0, 0)) ∧ w.grownBy w' (some g) := by
  obtain ⟨hu, inf, z, hinf, hs, _, _, _, _, _, _, _⟩ := hi
  obtain ⟨w', e1, e2, e3, _⟩ := run_storeCells_put (P := P) g te v.cells.toList o 0 cur w hg (by simp [hv]; omega) h1
  refine ⟨w', ?_, e2, e3⟩
  simp only [Instr.storeAt, Instr.sureAddr, Sem.run_bind, Sem.run_pure, Result.andThen_ok, storeVar, run_sizeOf hinf, hs, hv, ne_eq, not_true_eq_false, if_false, e1]

/-- The value has i.size cells, each of one cell. -/
def AVal.fits (v : AVal) (n : Nat) : Prop := v.cells.length = n ∧ ∀ c ∈ v.cells, c.one = true

theorem AVal.fits.known {v : AVal} {n : Nat} (h : v.fits n) : ∀ y, v ≠ .any ∧ v ≠ .raw y := by
  intro y
  constructor
  · rintro rfl; have := h.2 .any (by simp [AVal.cells]); simp [AVal.one] at this
  · rintro rfl; have := h.2 (.raw y) (by simp [AVal.cells]); simp [AVal.one] at this

theorem fits_cells {v : AVal} {n : Nat} {x : Value} (h : v.fits n) (hx : R E v x) : x.cells.size = n ∧ (∀ c ∈ x.cells.toList, c.oneCell' = true) ∧
    ∀ j (hj : j < v.cells.length), R E (v.cells[j]) (x.cells.toList.getD j undef) ∧ (x.cells.toList.getD j undef).oneCell' = true := by
  obtain ⟨h1, h2⟩ := hx.cells h.known
  have key : ∀ j (hj : j < v.cells.length), (x.cells.getD j undef).oneCell' = true := fun j hj => (h2 j hj).one (h.2 _ (List.getElem_mem hj))
  have conv : ∀ j, x.cells.toList.getD j undef = x.cells.getD j undef := fun j => by simp [List.getD, Array.getD_eq_getD_getElem?]
  refine ⟨h1.trans h.1, fun c hc => ?_, fun j hj => ?_⟩
  · obtain ⟨j, hj, rfl⟩ := List.getElem_of_mem hc
    have hj' : j < x.cells.size := by simpa using hj
    have := key j (by omega)
    simpa [Array.getD, hj'] using this
  · rw [conv]; exact ⟨h2 j hj, key j hj⟩

theorem store_ptr {t : TypeId} {i : TI} (hE : Wf G E) (hi : i.ok P t) {b off : Nat} {bs : List AVal} {tb : TypeId} {x y : Value} {v : AVal} (hx : R E (.ptr b off) x) (hy : R E v y)
    (hS : E.S[b]? = some (.cells bs tb)) (hlen : off + i.size ≤ bs.length) (hv : v.fits i.size) :
    ∃ E', (Instr.storeAt t x y).run P E.w = .ok () E'.w ∧ Ext E E' ∧ Wf G E' ∧ E'.S = E.S.set b (.cells (putCells bs off v.cells) tb) := by
  cases hx with
  | ptr _ _ c hm hb =>
    obtain ⟨c', arr, h1, h2, h3, h4⟩ := hE.entry b _ hS
    have : c' = c := by rw [hm] at h1; injection h1 with h1; injection h1 with h1; exact h1.symm
    subst this
    obtain ⟨f1, f2, f3⟩ := fits_cells hv hy
    obtain ⟨w', e1, e2, e3⟩ := run_storeAt (P := P) hi c' off tb arr E.w h2 y f1 (by omega) f2
    obtain ⟨k1, k2⟩ := env_set hE hm e3 _ (.cells (putCells bs off v.cells) tb) hS rfl rfl (fun hext => by
      refine ⟨c', _, hm, e2, by rw [putArr_size, putCells_length, h3], ?_⟩
      exact put_rel (Q := fun a u => R _ a u ∧ u.oneCell' = true) v.cells y.cells.toList bs arr off (by simp [f1, hv.1]) h3 (fun j hj => ⟨(f3 j hj).1.ext hE hext, (f3 j hj).2⟩) (fun j hj => ⟨(h4 j hj).1.ext hE hext, (h4 j hj).2⟩))
    exact ⟨_, e1, k1, k2, rfl⟩
end
end Go.Am
