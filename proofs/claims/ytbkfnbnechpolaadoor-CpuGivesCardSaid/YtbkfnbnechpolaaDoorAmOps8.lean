/- The abstract layer: append onto what is full or nil; copy; bytes and strings. -/
import Derived.Test.YtbkfnbnechpolaaDoorAmOps7
set_option linter.unusedVariables false
set_option linter.unusedSimpArgs false
namespace Go.Am
open Go
section
variable {P : Program} {G : Nat → Option AVal} {E : Env}

theorem src_more {S : St} {sz : Nat} {v : AVal} (x : ABox) (h : srcOk S sz v) : srcOf (S ++ [x]) v = srcOf S v ∧ srcOk (S ++ [x]) sz v := by
  cases v <;> try (exact ⟨rfl, h⟩)
  case view i off n cap =>
    obtain ⟨h1, cs, t, hS, h2, h3⟩ := h
    have hi : i < S.length := (List.getElem?_eq_some_iff.1 hS).1
    have e : (S ++ [x])[i]? = some (.cells cs t) := by rw [List.getElem?_append_left hi]; exact hS
    refine ⟨by simp [srcOf, hS, e], h1, cs, t, e, h2, h3⟩

theorem append_full {t tx ty e : TypeId} {i : TI} (hE : Wf G E) (hu : P.underlying t = some (.slice e)) (hi : i.ok P e) {nl : Bool} {xs : List AVal} {x y : Value} {v : AVal}
    (hx : R E (.sl i.size nl xs .full) x) (hy : R E v y) (hok : srcOk E.S i.size v)
    (hks : ∀ s, v = .str s → P.underlying tx = some .string) (hkl : (∀ s, v ≠ .str s) → ∃ e', P.underlying tx = some (.slice e'))
    (h63 : xs.length + (srcOf E.S v).length ≤ maxLen) (hby : (xs.length + (srcOf E.S v).length) * i.bytes ≤ 140737488355328) :
    ROk G E (E.S ++ [.grow (xs.length + (srcOf E.S v).length) i.size e]) (.sl i.size (nl && (srcOf E.S v).isEmpty) (xs ++ srcOf E.S v) (.grow E.S.length)) ((Builtin.append_ #[t, tx] ty #[x, y]).run P E.w) := by
  obtain ⟨k1, k2⟩ := env_ghost hE xs.length i.size e
  obtain ⟨m1, m2⟩ := src_more (.grow xs.length i.size e) hok
  have hmu : (E.mu ++ [none])[E.S.length]? = some none := by rw [← hE.len]; simp
  have hS0 : (E.S ++ [ABox.grow xs.length i.size e])[E.S.length]? = some (.grow xs.length i.size e) := by simp
  have hx' : R { E with mu := E.mu ++ [none], S := E.S ++ [.grow xs.length i.size e] } (.sl i.size nl xs (.grow E.S.length)) x := by
    cases hx with
    | slnil _ _ ht => exact .slnil _ _ ⟨0, e, hS0, Nat.le_refl _, fun _ => .inl ⟨hmu, rfl⟩⟩
    | sl _ _ _ ad n c f hn hc hm hf hcs hr ht =>
      refine .sl _ _ _ ad n c f hn hc hm (fun j hj => (hf j hj).ext k1 hE.im) hcs (fun k h j hj => (hr k h j hj).ext hE k1) ?_
      subst hn
      exact ⟨xs.length, e, hS0, Nat.le_refl _, fun _ => .inl ⟨hmu, ht⟩⟩
  have := append_grow (E := { E with mu := E.mu ++ [none], S := E.S ++ [.grow xs.length i.size e] }) (tx := tx) (ty := ty) k2 hu hi hx' hS0 (hy.ext hE k1) m2 hks hkl (by rw [m1]; exact h63) (by rw [m1]; exact hby)
  rw [m1] at this
  obtain ⟨E', z, h1, h2, h3, h4, h5⟩ := this
  refine ⟨E', z, h1, k1.trans hE h2, h3, ?_, h5⟩
  rw [h4]
  simp

theorem append_nil {t tx ty e : TypeId} {i : TI} (hE : Wf G E) (hu : P.underlying t = some (.slice e)) (hi : i.ok P e) {sz : Nat} {tg : Tag} {x y : Value} {v : AVal}
    (hx : R E (.sl sz true [] tg) x) (hy : R E v y) (hok : srcOk E.S i.size v)
    (hks : ∀ s, v = .str s → P.underlying tx = some .string) (hkl : (∀ s, v ≠ .str s) → ∃ e', P.underlying tx = some (.slice e'))
    (h63 : (srcOf E.S v).length ≤ maxLen) (hby : (srcOf E.S v).length * i.bytes ≤ 140737488355328) :
    ROk G E (E.S ++ [.grow (srcOf E.S v).length i.size e]) (.sl i.size (srcOf E.S v).isEmpty (srcOf E.S v) (.grow E.S.length)) ((Builtin.append_ #[t, tx] ty #[x, y]).run P E.w) := by
  have hx' : R E (.sl i.size true [] .full) x := by
    cases hx with
    | slnil => exact .slnil _ _ rfl
  have := append_full (tx := tx) (ty := ty) hE hu hi hx' hy hok hks hkl (by simpa using h63) (by simpa using hby)
  simpa using this

/-- One-cell elements, taken one by one. -/
theorem src_first (hE : Wf G E) {v : AVal} {x : Value} (hx : R E v x) (hok : srcOk E.S 1 v) (hone : ∀ y ∈ srcOf E.S v, y.one = true) :
    ∃ vs : List Value, vs.length = (srcOf E.S v).length ∧ (∀ w, (Builtin.lenOf x).run P w = .ok (srcOf E.S v).length w) ∧
      (∀ m, m ≤ (srcOf E.S v).length → (Builtin.firstCells 1 m x).run P E.w = .ok (vs.take m).toArray E.w) ∧
      ∀ k (h : k < (srcOf E.S v).length), R E ((srcOf E.S v)[k]) (vs.getD k undef) ∧ (vs.getD k undef).oneCell' = true := by
  have e0 : ∀ (c : AVal) (hc : c.cells = [c]) (h0 : 0 < c.cells.length), c.cells[0] = c := fun c hc h0 => by simpa using List.getElem_of_eq hc h0
  cases hx <;> try (exact (id hok : False).elim)
  case str b l hl =>
    subst hl
    have hlen : (srcOf E.S (.str b.data.toList)).length = b.size := by simp [srcOf, bl]
    refine ⟨byteCells b, by rw [hlen, byteCells_length], fun w => by rw [hlen]; rfl, fun m hm => ?_, fun k h => ?_⟩
    · simp only [Builtin.firstCells, Sem.run_pure]
      congr 1
      apply Array.ext'
      simp [byteCells, List.map_take]
    · have hkb : k < b.data.size := by rw [hlen] at h; exact h
      have e : (byteCells b).getD k undef = .int .u8 (b.data[k].toNat : Int) := by
        simp [byteCells, List.getD, Array.getElem?_eq_getElem hkb]
      rw [e]
      refine ⟨?_, rfl⟩
      simp only [srcOf, bl, List.getElem_map, bv, Array.getElem_toList]
      exact .int _ _
  case slnil sz' tg ht =>
    exact ⟨[], by simp [srcOf], fun w => by simp [srcOf, Builtin.lenOf], fun m hm => by simp [Builtin.firstCells], fun k h => by simp [srcOf] at h⟩
  case sl sz' xs tg ad n c f hn hc hm hf hcs hr ht =>
    subst hn
    have hsz1 : xs ≠ [] → sz' = 1 := fun hne => hok.resolve_right hne
    refine ⟨(List.range xs.length).map f, by simp [srcOf], fun w => by simp [srcOf, Builtin.lenOf], fun m hm => ?_, fun k h => ?_⟩
    · simp only [srcOf] at hm
      have := run_firstCells_some (P := P) E.w 1 m ad m c (((List.range xs.length).map f).take m) (by simp; omega) (fun j u hu => by
        obtain ⟨hj, e⟩ := List.getElem?_eq_some_iff.1 hu
        simp only [List.length_take, List.length_map, List.length_range] at hj
        have hne : xs ≠ [] := by rintro rfl; simp at hj
        have := (hf j (by rw [hsz1 hne]; omega)).2.1
        simp only [List.getElem_take, List.getElem_map, List.getElem_range] at e
        rw [this, e])
      exact this
    · simp only [srcOf] at h ⊢
      have hne : xs ≠ [] := by rintro rfl; simp at h
      have h1 := hsz1 hne
      rw [toList_getD _ _ _ h]
      have hc1 := one_cells (hone xs[k] (by simp [srcOf]))
      have hl0 : 0 < (xs[k]).cells.length := by rw [hc1]; simp
      have := hr k h 0 hl0
      rw [e0 _ hc1, h1, Nat.mul_one, Nat.add_zero] at this
      exact ⟨this, (hf k (by rw [h1]; omega)).2.2.2⟩
  case view i off n cap b hnc hm hb =>
    obtain ⟨_, cs, t, hS, hfit, hone'⟩ := hok
    obtain ⟨b', arr, g1, g2, g3, g4⟩ := hE.entry i _ hS
    have : b' = b := by rw [hm] at g1; injection g1 with g1; injection g1 with g1; exact g1.symm
    subst this
    have hsrc : srcOf E.S (.view i off n cap) = (cs.drop off).take n := by simp [srcOf, hS]
    have hlen : ((cs.drop off).take n).length = n := by simp; omega
    rw [hsrc]
    refine ⟨(List.range n).map fun j => arr.getD (off + j) undef, by simp; omega, fun w => by rw [hlen]; rfl, fun m hm' => ?_, fun k h => ?_⟩
    · rw [hlen] at hm'
      refine run_firstCells_some (P := P) E.w 1 m ⟨b', off, none⟩ m cap _ (by simp; omega) (fun j u hu => ?_)
      obtain ⟨hj, e⟩ := List.getElem?_eq_some_iff.1 hu
      simp only [List.length_take, List.length_map, List.length_range] at hj
      have hlt : off + j < arr.size := by omega
      rw [add_form _ _ rfl]
      simp only [List.getElem_take, List.getElem_map, List.getElem_range] at e
      simp [World.cell?, g2, hlt, ← e, Array.getD]
    · rw [hlen] at h
      rw [toList_getD _ _ _ h]
      have := g4 (off + k) (by omega)
      simpa using this

/-- copy into a box's cells. -/
theorem copy_view {t tx ty e : TypeId} {i : TI} (hE : Wf G E) (hu : P.underlying t = some (.slice e)) (hi : i.ok P e) (h1 : i.size = 1) {b off n cap : Nat} {x y : Value} {v : AVal} {bs : List AVal} {tb : TypeId}
    (hx : R E (.view b off n cap) x) (hS : E.S[b]? = some (.cells bs tb)) (hfit : off + n ≤ bs.length) (hy : R E v y) (hok : srcOk E.S 1 v) (hone : ∀ y ∈ srcOf E.S v, y.one = true) :
    ROk G E (E.S.set b (.cells (putCells bs off ((srcOf E.S v).take n)) tb)) (.int .i64 (min (srcOf E.S v).length n : Nat)) ((Builtin.copy_ #[t, tx] ty #[x, y]).run P E.w) := by
  obtain ⟨vs, hvl, hlen, hfc, hr⟩ := src_first (P := P) hE hy hok hone
  obtain ⟨_, inf, z, hinf, hs, _, _, _, _, _, _, _⟩ := hi
  generalize hys : srcOf E.S v = ys at *
  cases hx with
  | view _ _ _ _ c hnc hm hb =>
    obtain ⟨c', arr, g1, g2, g3, g4⟩ := hE.entry b _ hS
    have : c' = c := by rw [hm] at g1; injection g1 with g1; injection g1 with g1; exact g1.symm
    subst this
    have htl : (vs.take n).length = min ys.length n := by rw [List.length_take, hvl]; omega
    obtain ⟨w', s1, s2, s3, _⟩ := run_storeCells_put (P := P) c' tb (vs.take n) off 0 arr E.w g2 (by rw [htl, g3]; omega) (fun u hu => by
      obtain ⟨k, hk, rfl⟩ := List.getElem_of_mem (List.mem_of_mem_take hu)
      have := (hr k (by omega)).2
      simpa [List.getD, hk] using this)
    have hmin : Nat.min ys.length n = min ys.length n := rfl
    have hrun : (Builtin.copy_ #[t, tx] ty #[.slice (some ⟨c', off, none⟩) n cap, y]).run P E.w = .ok (.int .i64 (min ys.length n : Nat)) w' := by
      have hf := hfc (min ys.length n) (by omega)
      have htake : vs.take (min ys.length n) = vs.take n := by
        rcases Nat.le_total n ys.length with h | h
        · rw [Nat.min_eq_right h]
        · rw [Nat.min_eq_left h, ← hvl, List.take_length, List.take_of_length_le (by omega)]
      rw [htake] at hf
      simp only [Builtin.copy_, List.getElem?_toArray, List.getElem?_cons_zero, List.getElem?_cons_succ, Sem.run_bind, run_underlying hu, Result.andThen_ok, hlen, hmin, run_sizeOf hinf, hs, h1, hf, s1, Sem.run_pure]
      rfl
    obtain ⟨k1, k2⟩ := env_set hE hm s3 _ (.cells (putCells bs off (ys.take n)) tb) hS rfl rfl (fun hext => by
      refine ⟨c', _, hm, by simpa using s2, by rw [putArr_size, putCells_length, g3], ?_⟩
      refine put_rel (Q := fun a u => R _ a u ∧ u.oneCell' = true) (ys.take n) (vs.take n) bs arr off (by rw [htl, List.length_take]; omega) g3 (fun j hj => ?_) (fun j hj => ⟨(g4 j hj).1.ext hE hext, (g4 j hj).2⟩)
      rw [List.length_take] at hj
      have := hr j (by omega)
      have e : (vs.take n).getD j undef = vs.getD j undef := by
        have : j < n := by omega
        simp [List.getD, List.getElem?_take, this]
      rw [e, List.getElem_take]
      exact ⟨this.1.ext hE hext, this.2⟩)
    exact ⟨_, _, hrun, k1, k2, rfl, .int _ _⟩

/-! ### bytes and strings -/
def unb : AVal → UInt8
  | .int _ n => UInt8.ofNat n.toNat
  | _ => 0

theorem unb_bv (b : UInt8) : unb (bv b) = b := by simp [unb, bv]
theorem unbl_bl (l : List UInt8) : (bl l).map unb = l := by simp [bl, Function.comp_def, unb_bv]

theorem toString_sl {src dst e : TypeId} (hE : Wf G E) (hs : P.underlying src = some (.slice e)) (he : P.underlying e = some (.int .u8)) (hd : P.underlying dst = some .string) {nl : Bool} {l : List UInt8} {tg : Tag} {x : Value}
    (hx : R E (.sl 1 nl (bl l) tg) x) : ROk G E E.S (.str l) ((convert src dst x).run P E.w) := by
  generalize hxs : bl l = xs at hx
  cases hx with
  | slnil =>
    have : l = [] := by simpa [bl] using hxs
    subst this
    exact .pure hE (x := .string .empty) (by simp [convert, run_underlying hs, run_underlying hd, run_underlying he, Conv.bytesToString]) (.str _ _ rfl)
  | sl _ _ _ ad n c f hn hc hm hf hcs hr ht =>
    subst hxs
    subst hn
    have hlen : (bl l).length = l.length := by simp [bl]
    have hfv : ∀ j (hj : j < l.length), f j = .int .u8 (l[j].toNat : Int) := by
      intro j hj
      have h1 : j < (bl l).length := by omega
      have h2 : 0 < ((bl l)[j]).cells.length := by simp [bl, bv, AVal.cells]
      have := hr j h1 0 h2
      simp only [bl, List.getElem_map, bv, AVal.cells, List.getElem_cons_zero, Nat.mul_one, Nat.add_zero] at this
      exact this.int_inv
    have hl : (loadCells ad (bl l).length).run P E.w = .ok (l.map fun b => Value.int .u8 (b.toNat : Int)).toArray E.w := by
      have := run_loadCells_list (P := P) E.w ad (l.map fun b => Value.int .u8 (b.toNat : Int)) (fun j v hv => by
        obtain ⟨hj, e⟩ := List.getElem?_eq_some_iff.1 hv
        simp only [List.length_map] at hj
        have h3 := (hf j (by omega)).2.1
        rw [h3, hfv j hj, ← e]; simp)
      rw [List.length_map, ← hlen] at this
      exact this
    have hb := run_bytesToString (P := P) E.w ad (bl l).length c (l.map fun b => (b.toNat : Int)) (by rw [hl, List.map_map]; rfl)
    have hfold : ∀ (l : List UInt8) (r : ByteArray), ((l.map fun b => (b.toNat : Int)).foldl (fun r n => r.push (UInt8.ofNat n.toNat)) r).data.toList = r.data.toList ++ l := by
      intro l
      induction l with
      | nil => intro r; simp
      | cons b l ih => intro r; simp only [List.map_cons, List.foldl_cons, ih]; simp
    refine .pure hE (x := .string ((l.map fun b => (b.toNat : Int)).foldl (fun r n => r.push (UInt8.ofNat n.toNat)) ByteArray.empty)) ?_ (.str _ _ (by rw [hfold]; rfl))
    simp only [convert, run_underlying hs, run_underlying hd, Sem.run_bind, Result.andThen_ok, run_underlying he, hb]

theorem toBytes_str {src dst e : TypeId} (hE : Wf G E) (hs : P.underlying src = some .string) (hd : P.underlying dst = some (.slice e)) (he : P.underlying e = some (.int .u8)) {l : List UInt8} {x : Value}
    (hx : R E (.str l) x) (hlen : l.length ≤ maxLen) : ROk G E E.S (.sl 1 false (bl l) .any) ((convert src dst x).run P E.w) := by
  cases hx with
  | str b _ hb =>
    subst hb
    have hbl : b.data.toList.length = b.size := rfl
    rw [hbl] at hlen
    generalize hq : (Question.appendCap b.size 0 e).cut (E.w.tape E.w.drawn (.appendCap b.size 0 e)) = cap
    have hcap : b.size ≤ cap ∧ cap ≤ maxLen := by
      rw [← hq]
      simp only [Question.cut, maxLen] at hlen ⊢
      have : E.w.tape E.w.drawn (Question.appendCap b.size 0 e) % (2 ^ 63 - b.size) < 2 ^ 63 - b.size := Nat.mod_lt _ (by omega)
      omega
    let arr : Array Value := (b.data.map fun c => Value.int .u8 (c.toNat : Int)) ++ Array.replicate (cap - b.size) (.int .u8 0)
    have hasz : arr.size = cap := by simp [arr]; have : b.data.size = b.size := rfl; omega
    have hrun : ∃ w', (convert src dst (.string b)).run P E.w = .ok (.slice (some ⟨E.w.heap.size, 0, none⟩) b.size cap) w' ∧ E.w.grownBy w' none ∧ (∃ fz, w'.heap[E.w.heap.size]? = some (.cells arr e fz)) := by
      refine ⟨(E.w.drew.alloc (.cells arr e)).freeze ⟨E.w.heap.size, arr.size, none⟩ 1, ?_, ?_, ?_⟩
      · have hsh : (E.w.drew.alloc (.cells arr e)).shape? E.w.heap.size = some (e, arr.size) := by
          have := heap_new E.w.drew (.cells arr e)
          simp only [World.shape?]
          rw [show E.w.heap.size = E.w.drew.heap.size from rfl, this]
        simp only [convert, run_underlying hs, run_underlying hd, Sem.run_bind, Result.andThen_ok, run_underlying he, Conv.stringToBytes]
        simp only [choose, Sem.run, Question.forced, Bool.false_eq_true, if_false, Result.andThen_ok, hq, newRow, newObj, Sem.run_bind, Sem.run_pure, markStringish, shape, freeze]
        show Result.andThen _ _ = _
        have h2 : World.shape? { E.w.drew with heap := E.w.drew.heap.push (.cells arr e) } E.w.drew.heap.size = some (e, arr.size) := hsh
        simp only [World.drew] at h2 ⊢
        simp only [arr] at h2
        simp only [h2, Result.andThen_ok, Sem.run, Sem.run_bind]
        rfl
      · refine ⟨rfl, rfl, rfl, ?_, fun k hk _ => ?_⟩
        · unfold World.freeze; simp
        · have h1 := Go.RowKit.Below.heap_alloc E.w.drew (.cells arr e) k hk
          rw [show E.w.drew.heap[k]? = E.w.heap[k]? from rfl] at h1
          rw [← h1]
          unfold World.freeze
          simp only [Nat.succ_ne_zero, if_false]
          rw [Array.getElem?_modify, if_neg (by omega)]
      · refine ⟨(arr.size, arr.size + 1), ?_⟩
        have h1 := heap_new E.w.drew (.cells arr e)
        rw [show E.w.drew.heap.size = E.w.heap.size from rfl] at h1
        unfold World.freeze
        simp only [Nat.succ_ne_zero, if_false]
        rw [Array.getElem?_modify, if_pos rfl, h1]
        simp
    obtain ⟨w', h1, h2, fz, h3⟩ := hrun
    obtain ⟨k1, k2⟩ := env_grown hE h2
    refine ⟨_, _, h1, k1, k2, rfl, ?_⟩
    have hv : ∀ j (hj : j < b.data.size), arr.getD j undef = .int .u8 (b.data[j].toNat : Int) := fun j hj => by
      have hja : j < arr.size := by rw [hasz]; have : b.data.size = b.size := rfl; omega
      rw [Array.getD_eq_getD_getElem?]
      simp only [arr]
      rw [Array.getElem?_append_left (by simpa using hj)]
      simp [Array.getElem?_eq_getElem hj]
    refine .sl 1 _ _ _ _ _ (fun j => arr.getD j undef) (by simp [bl]) hcap.1 hcap.2 (fun j hj => ?_) (fun k hk => by simp [bl, bv, AVal.cells]) (fun k hk j hj => ?_) trivial
    · have hjb : j < b.data.size := by rw [Nat.mul_one] at hj; exact hj
      have hja : j < arr.size := by rw [hasz]; have : b.data.size = b.size := rfl; omega
      refine ⟨rfl, ?_, ?_, by rw [hv j hjb]; rfl⟩
      · rw [add_form _ _ rfl]
        simp only [World.cell?, h3]
        simp [Array.getD, hja]
      · have hlt : E.w.heap.size < w'.heap.size := by
          rcases Nat.lt_or_ge E.w.heap.size w'.heap.size with h | h
          · exact h
          · rw [Array.getElem?_eq_none h] at h3; cases h3
        refine ⟨hlt, .inr (.inl ⟨hE.base, fun i hi => ?_⟩)⟩
        have h2 : E.w.heap.size < E.w.heap.size := hE.lt i _ hi
        omega
    · have hkb : k < b.data.size := by simpa [bl] using hk
      have hj0 : j = 0 := by simp [bl, bv, AVal.cells] at hj; omega
      subst hj0
      rw [Nat.mul_one, Nat.add_zero, hv k hkb]
      simp only [bl, List.getElem_map, bv, AVal.cells, List.getElem_cons_zero, Array.getElem_toList]
      exact .int _ _
end
end Go.Am
