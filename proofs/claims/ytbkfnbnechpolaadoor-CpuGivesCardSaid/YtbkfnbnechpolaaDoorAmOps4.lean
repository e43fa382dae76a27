/- The abstract layer: slices that are made, cut, measured, turned into strings and back. -/
import Derived.Test.YtbkfnbnechpolaaDoorAmOps3
set_option linter.unusedVariables false
set_option linter.unusedSimpArgs false
namespace Go.Am
open Go
section
variable {P : Program} {G : Nat → Option AVal} {E : Env}

theorem putArr_getD (vs : List Value) : ∀ (arr : Array Value) (off p : Nat), off + vs.length ≤ arr.size →
    (putArr arr off vs).getD p undef = if off ≤ p ∧ p < off + vs.length then vs.getD (p - off) undef else arr.getD p undef := by
  induction vs with
  | nil =>
    intro arr off p _
    have : ¬ (off ≤ p ∧ p < off + 0) := by omega
    simp only [putArr, List.length_nil, this, if_false]
  | cons v vs ih =>
    intro arr off p hl
    simp only [List.length_cons] at hl
    simp only [putArr]
    rw [ih (arr.setIfInBounds off v) (off + 1) p (by simp; omega)]
    by_cases h1 : off + 1 ≤ p ∧ p < off + 1 + vs.length
    · rw [if_pos h1, if_pos ⟨by omega, by simp; omega⟩]
      have : p - off = (p - (off + 1)) + 1 := by omega
      rw [this]; rfl
    · rw [if_neg h1]
      by_cases h2 : off = p
      · subst h2
        have h3 : off < arr.size := by omega
        rw [if_pos ⟨Nat.le_refl _, by simp⟩]
        simp [Array.getD, h3]
      · rw [if_neg (by simp; omega)]
        simp only [Array.getD_eq_getD_getElem?]
        rw [Array.getElem?_setIfInBounds_ne h2]

/-- A row of a call's own that nobody will write. -/
theorem new_row (hE : Wf G E) (sz : Nat) (xs : List AVal) (arr : Array Value) (t : TypeId) (h1 : arr.size = xs.length * sz) (hm : xs.length ≤ maxLen) (hsz : ∀ k (h : k < xs.length), (xs[k]).cells.length = sz)
    (hr : ∀ k (h : k < xs.length) j (hj : j < (xs[k]).cells.length), R E ((xs[k]).cells[j]) (arr.getD (k * sz + j) undef)) (ho : ∀ p, p < arr.size → (arr.getD p undef).oneCell' = true) :
    ∃ E', E'.w = E.w.alloc (.cells arr t) ∧ Ext E E' ∧ Wf G E' ∧ E'.S = E.S ∧ R E' (.sl sz false xs .full) (.slice (some ⟨E.w.heap.size, 0, none⟩) xs.length xs.length) := by
  obtain ⟨k1, k2⟩ := env_grown hE (World.grownBy_alloc E.w (.cells arr t) none)
  refine ⟨_, rfl, k1, k2, rfl, ?_⟩
  refine .sl sz xs .full _ _ _ (fun j => arr.getD j undef) rfl (Nat.le_refl _) hm (fun j hj => ?_) hsz (fun k h j hj => (hr k h j hj).ext hE k1) rfl
  have hj' : j < arr.size := by omega
  refine ⟨rfl, ?_, ?_, ho j hj'⟩
  · rw [add_form _ _ rfl]
    have hh := heap_new E.w (.cells arr t)
    simp only [World.cell?, hh]
    simp [Array.getD, hj']
  · refine ⟨by simp, .inr (.inl ⟨hE.base, fun i hi => ?_⟩)⟩
    have h2 : E.w.heap.size < E.w.heap.size := hE.lt i _ hi
    omega

/-- A new block that nobody will write. -/
theorem box_imm {t : TypeId} {n : Nat} (hE : Wf G E) {v : AVal} {x : Value} (hx : R E v x) (hv : v.fits n) : ROk G E E.S (.cptr v.cells) ((Instr.box t x).run P E.w) := by
  obtain ⟨f1, f2, f3⟩ := fits_cells hv hx
  obtain ⟨k1, k2⟩ := env_grown hE (World.grownBy_alloc E.w (.cells x.cells t) none)
  have hlen : x.cells.size = v.cells.length := by rw [f1, hv.1]
  refine ⟨_, _, ?_, k1, k2, rfl, .cptr v.cells ⟨E.w.heap.size, 0, none⟩ (fun j => x.cells.getD j undef) (fun j hj => ?_) (fun j hj => ?_)⟩
  · simp [Instr.box, newVar, newRow, newObj, Sem.run]
  · have hj' : j < x.cells.size := by omega
    have h3 := (f3 j hj).2
    have e : x.cells.toList.getD j undef = x.cells.getD j undef := by simp [List.getD, Array.getD_eq_getD_getElem?]
    rw [e] at h3
    refine ⟨rfl, ?_, ⟨by simp, .inr (.inl ⟨hE.base, fun i hi => ?_⟩)⟩, h3⟩
    · rw [add_form _ _ rfl]
      have hh := heap_new E.w (.cells x.cells t)
      simp only [World.cell?, hh]
      simp [Array.getD, hj']
    · have h2 : E.w.heap.size < E.w.heap.size := hE.lt i _ hi
      omega
  · have h3 := (f3 j hj).1
    have e : x.cells.toList.getD j undef = x.cells.getD j undef := by simp [List.getD, Array.getD_eq_getD_getElem?]
    rw [e] at h3
    exact h3.ext hE k1


def setElems (sz : Nat) (l : List AVal) : List (Nat × AVal) → Option (List AVal)
  | [] => some l
  | (k, v) :: rest => if v.cells.length = sz ∧ k < l.length then setElems sz (l.set k v) rest else none

theorem pos_eq {a b j k sz : Nat} (hj : j < sz) (hk : k < sz) (h : a * sz + j = b * sz + k) : a = b := by
  rcases Nat.lt_trichotomy a b with h1 | h1 | h1
  · have : (a + 1) * sz ≤ b * sz := Nat.mul_le_mul_right _ h1
    rw [Nat.add_mul] at this; omega
  · exact h1
  · have : (b + 1) * sz ≤ a * sz := Nat.mul_le_mul_right _ h1
    rw [Nat.add_mul] at this; omega

theorem setElems_ok (sz : Nat) : ∀ (ps : List (Nat × AVal)) (qs : List (Nat × Value)) (l out : List AVal) (arr : Array Value), qs.length = ps.length →
    (∀ j (h : j < ps.length), (qs.getD j (0, undef)).1 = ps[j].1 ∧ R E ps[j].2 (qs.getD j (0, undef)).2 ∧ ∃ n, ps[j].2.fits n) → arr.size = l.length * sz →
    (∀ k (h : k < l.length), (l[k]).cells.length = sz) → (∀ k (h : k < l.length) j (hj : j < (l[k]).cells.length), R E ((l[k]).cells[j]) (arr.getD (k * sz + j) undef)) → (∀ p, p < arr.size → (arr.getD p undef).oneCell' = true) → setElems sz l ps = some out →
    ∃ res, Instr.fill (fun i => some (i * sz, sz)) arr qs = some res ∧ res.size = out.length * sz ∧ (∀ k (h : k < out.length), (out[k]).cells.length = sz) ∧
      (∀ k (h : k < out.length) j (hj : j < (out[k]).cells.length), R E ((out[k]).cells[j]) (res.getD (k * sz + j) undef)) ∧ ∀ p, p < res.size → (res.getD p undef).oneCell' = true := by
  intro ps
  induction ps with
  | nil =>
    intro qs l out arr hl _ hs hc hb h1 ho
    have : qs = [] := List.eq_nil_of_length_eq_zero (by simpa using hl)
    subst this
    simp only [setElems, Option.some.injEq] at ho
    subst ho
    exact ⟨arr, rfl, hs, hc, hb, h1⟩
  | cons p ps ih =>
    intro qs l out arr hl hq hs hc hb h1 ho
    match qs, hl, hq with
    | q :: qs, hl, hq =>
      obtain ⟨k, v⟩ := p
      obtain ⟨k', y⟩ := q
      obtain ⟨hk, hr, n, hf⟩ := hq 0 (Nat.succ_pos _)
      simp only [List.getD_cons_zero, List.getElem_cons_zero] at hk hr hf
      subst hk
      obtain ⟨f1, f2, f3⟩ := fits_cells hf hr
      simp only [setElems] at ho
      split at ho
      · next hcond =>
        obtain ⟨hv, hkl⟩ := hcond
        have hvs : y.cells.size = sz := by rw [f1, ← hf.1, hv]
        have hfit : k' * sz + sz ≤ arr.size := by
          rw [hs]
          have : (k' + 1) * sz ≤ l.length * sz := Nat.mul_le_mul_right _ hkl
          rw [Nat.add_mul] at this; omega
        obtain ⟨res, r1, r2, r3, r4, r5⟩ := ih qs (l.set k' v) out (putArr arr (k' * sz) y.cells.toList) (by simpa using hl) (fun j hj => hq (j + 1) (Nat.succ_lt_succ hj))
          (by rw [putArr_size, hs, List.length_set]) (fun i hi => by
            rw [List.length_set] at hi
            by_cases e : k' = i
            · subst e; simpa using hv
            · rw [List.getElem_set_ne e]; exact hc i hi) (fun i hi j hj => by
            rw [List.length_set] at hi
            rw [putArr_getD _ _ _ _ (by simp [hvs]; exact hfit)]
            by_cases e : k' = i
            · subst e
              simp only [List.getElem_set_self] at hj ⊢
              rw [if_pos ⟨by omega, by simp [hvs]; omega⟩]
              have := (f3 j hj).1
              rwa [show k' * sz + j - k' * sz = j by omega]
            · simp only [List.getElem_set_ne e] at hj ⊢
              have hj' := hj
              rw [hc i hi] at hj'
              rw [if_neg ?_]
              · exact hb i hi j hj
              · rintro ⟨h1, h2⟩
                simp only [Array.length_toList, hvs] at h2
                exact e (pos_eq (j := i * sz + j - k' * sz) (k := j) (by omega) hj' (by omega))) (fun p hp => by
            rw [putArr_getD _ _ _ _ (by simp [hvs]; exact hfit)]
            split
            · next hc2 =>
              have := (f3 (p - k' * sz) (by rw [hv]; simp [hvs] at hc2; omega)).2
              exact this
            · rw [putArr_size] at hp; exact h1 p hp) ho
        refine ⟨res, ?_, r2, r3, r4, r5⟩
        have hcond : (decide (y.cells.size ≠ sz) || decide (k' * sz + y.cells.size > arr.size)) = false := by simp [hvs]; omega
        have e := zipIdx_foldl y.cells arr (k' * sz)
        rw [← e] at r1
        simp only [Instr.fill, hcond, Bool.false_eq_true, if_false]
        exact r1
      · cases ho
    | [], hl, _ => simp at hl

theorem zeros_ok {t : TypeId} {i : TI} (hi : i.ok P t) (n : Nat) : ∃ inf z, P.info? t = some inf ∧ inf.zero = some z ∧ inf.size = i.size ∧ inf.bytes = i.bytes ∧ z.cells.size = i.size ∧
    (∀ k (h : k < (List.replicate n (ofCells i i.zero)).length), ((List.replicate n (ofCells i i.zero))[k]).cells.length = i.size) ∧
    (∀ (E : Env) k (h : k < (List.replicate n (ofCells i i.zero)).length) j (hj : j < ((List.replicate n (ofCells i i.zero))[k]).cells.length),
      R E (((List.replicate n (ofCells i i.zero))[k]).cells[j]) (((Array.range (n * i.size)).map (z.cells[· % z.cells.size]!)).getD (k * i.size + j) undef)) ∧
    ∀ p, p < n * i.size → ((((Array.range (n * i.size)).map (z.cells[· % z.cells.size]!)).getD p undef) : Value).oneCell' = true := by
  obtain ⟨inf, z, hinf, hz, hzl, hzs, hzr, hzo⟩ := ofCells_zero hi
  have hone := hi.one
  obtain ⟨hu, inf', _, hinf', hs, hby, hz', hzz', _, hz1', hag, _⟩ := hi
  have : inf' = inf := by rw [hinf] at hinf'; injection hinf' with h; exact h.symm
  subst this
  have hcl : (ofCells i i.zero).cells = i.zero := by
    unfold ofCells
    split
    · rfl
    · next ha =>
      have hsz := hone.resolve_left ha
      rw [hsz] at hzs
      match hzero : i.zero, hzs with
      | [c], _ =>
        have : c.cells = [c] := by
          have hmem : c ∈ i.zero := by rw [hzero]; exact List.mem_singleton.2 rfl
          rw [← hzz'] at hmem
          obtain ⟨v, hv, rfl⟩ := List.mem_map.1 hmem
          rw [List.all_eq_true] at hz1'
          have h1 := hz1' v hv
          unfold ofCell
          split <;> rfl
        simpa using this
  refine ⟨inf', z, hinf, hz, hs, hby, by omega, fun k h => by simp [hcl, hzs], fun E k h j hj => ?_, fun p hp => ?_⟩
  rotate_left
  · have hz2 : 0 < i.size := by
      rcases Nat.eq_zero_or_pos i.size with e | e
      · rw [e] at hp; omega
      · exact e
    have hj' : p % z.cells.size < z.cells.size := Nat.mod_lt _ (by omega)
    have := (hzr ⟨default, [], [], 0, fun _ _ => True, 0⟩ (p % z.cells.size) (by omega)).2
    simpa [Array.getD, hp, hj'] using this
  simp only [List.getElem_replicate, hcl] at hj ⊢
  have hk : k < n := by simpa using h
  have hlt : k * i.size + j < n * i.size := by
    have : (k + 1) * i.size ≤ n * i.size := Nat.mul_le_mul_right _ hk
    rw [Nat.add_mul] at this; omega
  have hmod : (k * i.size + j) % z.cells.size = j := by
    rw [show z.cells.size = i.size by omega, Nat.add_comm, Nat.add_mul_mod_self_right, Nat.mod_eq_of_lt (by omega)]
  have hj' : j < z.cells.size := by omega
  have := (hzr E j hj).1
  simpa [Array.getD, hlt, hmod, hj'] using this

/-! ### buildSlice -/
theorem buildSlice_ok {t e : TypeId} {i : TI} (hE : Wf G E) (hu : P.underlying t = some (.slice e)) (hi : i.ok P e) (hpos : 0 < i.size) (n : Nat) (hbig : n * i.size ≤ 16777216)
    (ps : List (Nat × AVal)) (qs : Array (Nat × Value)) (hl : qs.size = ps.length)
    (hq : ∀ j (h : j < ps.length), (qs.toList.getD j (0, undef)).1 = ps[j].1 ∧ R E ps[j].2 (qs.toList.getD j (0, undef)).2 ∧ ∃ n, ps[j].2.fits n) {out : List AVal}
    (ho : setElems i.size (List.replicate n (ofCells i i.zero)) ps = some out) : ROk G E E.S (.sl i.size false out .full) ((Instr.buildSlice t n qs).run P E.w) := by
  obtain ⟨inf, z, hinf, hz, hs, _, hzs, c1, c2, c3⟩ := zeros_ok hi n
  obtain ⟨res, r1, r2, r3, r4, r5⟩ := setElems_ok (E := E) i.size ps qs.toList _ out ((Array.range (n * i.size)).map (z.cells[· % z.cells.size]!)) (by simpa using hl) hq (by simp) c1 (c2 E) (fun p hp => c3 p (by simpa using hp)) ho
  have hlen : out.length = n := by
    have key : ∀ (ps : List (Nat × AVal)) (l out : List AVal), setElems i.size l ps = some out → out.length = l.length := by
      intro ps
      induction ps with
      | nil => intro l out h; simp only [setElems, Option.some.injEq] at h; rw [h]
      | cons p ps ih =>
        intro l out h
        obtain ⟨k, v⟩ := p
        simp only [setElems] at h
        split at h
        · simpa using ih _ _ h
        · cases h
    simpa using key _ _ _ ho
  have hm : out.length ≤ maxLen := by
    have : n ≤ n * i.size := Nat.le_mul_of_pos_right _ hpos
    simp only [maxLen]; omega
  obtain ⟨E', hw, k1, k2, k3, k4⟩ := new_row hE i.size out res e r2 hm r3 r4 r5
  refine ⟨E', _, ?_, k1, k2, k3, k4⟩
  have hnot : ¬ (n * i.size > 2 ^ 24) := by simp; omega
  by_cases h0 : n * i.size = 0
  · have e0 : (Array.range (n * i.size)).map (z.cells[· % z.cells.size]!) = #[] := by rw [h0]; simp
    rw [e0] at r1
    have e1 : Array.map (fun _ : Nat => (default : Value)) (Array.range 0) = #[] := by simp
    simp [Instr.buildSlice, run_underlying hu, run_sizeOf hinf, hs, h0, e1, r1, newRow, newObj, Sem.run, hw, hlen]
  · simp [Instr.buildSlice, run_underlying hu, run_sizeOf hinf, hs, hnot, h0, zeroValue, typeInfo, hinf, hz, r1, newRow, newObj, Sem.run, hw, hlen]

/-! ### make -/
theorem run_makeSlice_row {t e : TypeId} {i : TI} (hu : P.underlying t = some (.slice e)) (hi : i.ok P e) (n c : Nat) (hnc : n ≤ c) (hc : c ≤ 9223372036854775807) (hb : i.bytes * c ≤ 140737488355328) (w : World) :
    ∃ arr : Array Value, (Instr.makeSlice t (.int .i64 n) (.int .i64 c)).run P w = .ok (.slice (some ⟨w.heap.size, 0, none⟩) n c) (w.alloc (.cells arr e)) ∧ arr.size = c * i.size ∧
      ∀ (E : Env) k (h : k < (List.replicate c (ofCells i i.zero)).length) j (hj : j < ((List.replicate c (ofCells i i.zero))[k]).cells.length),
        R E (((List.replicate c (ofCells i i.zero))[k]).cells[j]) (arr.getD (k * i.size + j) undef) ∧ (arr.getD (k * i.size + j) undef).oneCell' = true := by
  obtain ⟨inf, z, hinf, hz, hs, hby, hzs, c1, c2, c3⟩ := zeros_ok hi c
  obtain ⟨inf2, z2, hinf2, hz2, hzl2, hzs2, hzr2, _⟩ := ofCells_zero hi
  have e1 : inf2 = inf := by rw [hinf] at hinf2; injection hinf2 with h; exact h.symm
  subst e1
  have e2 : z2 = z := by rw [hz] at hz2; injection hz2 with h; exact h.symm
  subst e2
  have wn : IntKind.i64.wrap (n : Int) = n := IntWalk.i64_in _ (by omega)
  have wc : IntKind.i64.wrap (c : Int) = c := IntWalk.i64_in _ (by omega)
  have hbi : (i.bytes : Int) * (c : Int) ≤ 140737488355328 := by
    have : ((i.bytes * c : Nat) : Int) ≤ 140737488355328 := by omega
    rwa [Int.natCast_mul] at this
  refine ⟨(Array.range (c * i.size)).map (z2.cells[· % z2.cells.size]!), ?_, by simp, fun E k h j hj => ⟨c2 E k h j hj, ?_⟩⟩
  · have hnc' : ¬ ((n : Int) > c) := by omega
    have hneg : ¬ (((c : Int) < 0 ∨ 281474976710656 < (i.bytes : Int) * (c : Int)) ∨ (n : Int) < 0) := by omega
    by_cases h0 : c * i.size = 0
    · have e1 : Array.map (fun _ : Nat => (default : Value)) (Array.range 0) = #[] := by simp
      simp [Instr.makeSlice, run_underlying hu, asInt, asIntOf, typeInfo, hinf, wn, wc, hnc', askRoom, hby, run_sizeOf hinf, hs, h0, e1, newRow, newObj, Sem.run]
      rw [if_neg hneg, show (Array.range 0 : Array Nat) = #[] from rfl, Array.map_empty]
    · simp [Instr.makeSlice, run_underlying hu, asInt, asIntOf, typeInfo, hinf, wn, wc, hnc', askRoom, hby, run_sizeOf hinf, hs, h0, zeroValue, hz, newRow, newObj, Sem.run]
      exact fun h => absurd h hneg
  · have h' : k < c := by simpa using h
    have hj' : j < i.size := by rw [c1 k h] at hj; exact hj
    have hlt : k * i.size + j < c * i.size := by
      have : (k + 1) * i.size ≤ c * i.size := Nat.mul_le_mul_right _ h'
      rw [Nat.add_mul] at this; omega
    have hmod : (k * i.size + j) % z2.cells.size = j := by
      rw [hzs, Nat.add_comm, Nat.add_mul_mod_self_right, Nat.mod_eq_of_lt hj']
    have hj2 : j < z2.cells.size := by omega
    have := (hzr2 E j (by omega)).2
    simpa [Array.getD, hlt, hmod, hj2] using this
end
end Go.Am
