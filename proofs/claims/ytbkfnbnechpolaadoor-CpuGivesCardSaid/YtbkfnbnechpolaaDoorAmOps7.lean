/- The abstract layer: append and copy. -/
import Derived.Test.YtbkfnbnechpolaaDoorAmOps6
set_option linter.unusedVariables false
set_option linter.unusedSimpArgs false
namespace Go.Am
open Go
section
variable {P : Program} {G : Nat → Option AVal} {E : Env}

theorem pair_getD (olds news : List Value) (zc : Array Value) (p : Nat) (h : p < olds.length + news.length) :
    ((olds ++ news).toArray ++ zc).getD p undef = if p < olds.length then olds.getD p undef else news.getD (p - olds.length) undef := by
  simp only [Array.getD_eq_getD_getElem?]
  rw [Array.getElem?_append_left (by simpa using h)]
  simp only [List.getElem?_toArray]
  rw [List.getElem?_append]
  split <;> rfl

/-- Elements laid side by side. -/
theorem pair_rel {sz : Nat} {xs ys : List AVal} {olds news : List Value} {Q : AVal → Value → Prop} (zc : Array Value) (hol : olds.length = xs.length * sz) (hnl : news.length = ys.length * sz)
    (cx : ∀ k (h : k < xs.length), (xs[k]).cells.length = sz) (cy : ∀ k (h : k < ys.length), (ys[k]).cells.length = sz)
    (rx : ∀ k (h : k < xs.length) j (hj : j < (xs[k]).cells.length), Q ((xs[k]).cells[j]) (olds.getD (k * sz + j) undef))
    (ry : ∀ k (h : k < ys.length) j (hj : j < (ys[k]).cells.length), Q ((ys[k]).cells[j]) (news.getD (k * sz + j) undef)) :
    (∀ k (h : k < (xs ++ ys).length), ((xs ++ ys)[k]).cells.length = sz) ∧
    ∀ k (h : k < (xs ++ ys).length) j (hj : j < ((xs ++ ys)[k]).cells.length), Q (((xs ++ ys)[k]).cells[j]) (((olds ++ news).toArray ++ zc).getD (k * sz + j) undef) := by
  have c : ∀ k (h : k < (xs ++ ys).length), ((xs ++ ys)[k]).cells.length = sz := by
    intro k h
    rw [List.getElem_append]
    split
    · exact cx _ _
    · exact cy _ _
  refine ⟨c, fun k h j hj => ?_⟩
  have hj' : j < sz := by rw [← c k h]; exact hj
  rw [List.length_append] at h
  have hlt : k * sz + j < olds.length + news.length := by
    rw [hol, hnl, ← Nat.add_mul]
    have : (k + 1) * sz ≤ (xs.length + ys.length) * sz := Nat.mul_le_mul_right _ h
    rw [Nat.add_mul] at this; omega
  rw [pair_getD _ _ _ _ hlt]
  by_cases hk : k < xs.length
  · have e : (xs ++ ys)[k]'(by rw [List.length_append]; exact h) = xs[k] := List.getElem_append_left hk
    have h2 : k * sz + j < olds.length := by
      rw [hol]
      have : (k + 1) * sz ≤ xs.length * sz := Nat.mul_le_mul_right _ hk
      rw [Nat.add_mul] at this; omega
    rw [if_pos h2]
    have := rx k hk j (by rw [← e]; exact hj)
    simpa only [e] using this
  · have e : (xs ++ ys)[k]'(by rw [List.length_append]; exact h) = ys[k - xs.length]'(by omega) := List.getElem_append_right (by omega)
    have h1 : xs.length * sz ≤ k * sz := Nat.mul_le_mul_right _ (by omega)
    rw [if_neg (by rw [hol]; omega)]
    have := ry (k - xs.length) (by omega) j (by rw [← e]; exact hj)
    rw [Nat.sub_mul] at this
    rw [hol, show k * sz + j - xs.length * sz = k * sz - xs.length * sz + j by omega]
    simpa only [e] using this

theorem set_same {S : St} {g : Nat} {x : ABox} (h : S[g]? = some x) : S.set g x = S := by
  obtain ⟨hl, e⟩ := List.getElem?_eq_some_iff.1 h
  subst e
  simp

theorem append_new (hE : Wf G E) {sz : Nat} {e : TypeId} {g : Nat} {xs ys : List AVal} {olds news : List Value} (zc : Array Value) (cap : Nat) (hS : E.S[g]? = some (.grow xs.length sz e))
    (hol : olds.length = xs.length * sz) (hnl : news.length = ys.length * sz) (cx : ∀ k (h : k < xs.length), (xs[k]).cells.length = sz) (cy : ∀ k (h : k < ys.length), (ys[k]).cells.length = sz)
    (rx : ∀ k (h : k < xs.length) j (hj : j < (xs[k]).cells.length), R E ((xs[k]).cells[j]) (olds.getD (k * sz + j) undef))
    (ry : ∀ k (h : k < ys.length) j (hj : j < (ys[k]).cells.length), R E ((ys[k]).cells[j]) (news.getD (k * sz + j) undef))
    (ox : ∀ u ∈ olds, u.oneCell' = true) (oy : ∀ u ∈ news, u.oneCell' = true) (hcap : xs.length + ys.length ≤ cap) (hmax : cap ≤ maxLen) (hzc : zc.size = (cap - (xs.length + ys.length)) * sz) (hpos : 0 < ys.length) :
    ∃ E', E'.w = E.w.drew.alloc (.cells ((olds ++ news).toArray ++ zc) e) ∧ Ext E E' ∧ Wf G E' ∧ E'.S = E.S.set g (.grow (xs.length + ys.length) sz e) ∧
      R E' (.sl sz false (xs ++ ys) (.grow g)) (.slice (some ⟨E.w.heap.size, 0, none⟩) (xs.length + ys.length) cap) := by
  have hgl : g < E.S.length := (List.getElem?_eq_some_iff.1 hS).1
  have hg : E.w.grownBy (E.w.drew.alloc (.cells ((olds ++ news).toArray ++ zc) e)) none :=
    ⟨rfl, rfl, rfl, by simp, fun k hk _ => Go.RowKit.Below.heap_alloc E.w.drew _ k hk⟩
  have hnew : (E.w.drew.alloc (.cells ((olds ++ news).toArray ++ zc) e)).heap[E.w.heap.size]? = some (.cells ((olds ++ news).toArray ++ zc) e (0, 0)) := heap_alloc_new E.w.drew _
  have hsize : ((olds ++ news).toArray ++ zc).size = cap * sz := by
    simp only [Array.size_append, List.size_toArray, List.length_append, hol, hnl, hzc, ← Nat.add_mul]
    congr 1; omega
  obtain ⟨k1, k2⟩ := env_move hE (g := g) (n := xs.length) (sz := sz) (b := E.w.heap.size) (m := ys.length) (t := e) hgl hS hg (Nat.le_refl _) (by simp) hnew (by rw [hsize]; exact Nat.mul_le_mul_right _ hcap) hpos
  refine ⟨_, rfl, k1, k2, rfl, ?_⟩
  obtain ⟨c, r⟩ := pair_rel (Q := R _) zc hol hnl cx cy (fun k h j hj => (rx k h j hj).ext hE k1) (fun k h j hj => (ry k h j hj).ext hE k1)
  have hgm : g < E.mu.length := by rw [hE.len]; exact hgl
  refine .sl sz _ _ _ _ _ (fun j => ((olds ++ news).toArray ++ zc).getD j undef) (by simp) hcap hmax (fun j hj => ?_) c r ?_
  · have hlt : j < olds.length + news.length := by rw [hol, hnl, ← Nat.add_mul]; exact hj
    have hlt2 : j < ((olds ++ news).toArray ++ zc).size := by simp; omega
    refine ⟨rfl, ?_, ⟨by simp, .inr (.inr ⟨hE.base, g, xs.length + ys.length, sz, e, List.getElem?_set_self hgm, List.getElem?_set_self hgl, by simpa using hj⟩)⟩, ?_⟩
    · rw [add_form _ _ rfl]
      simp only [World.cell?]
      rw [hnew]
      have : ((olds ++ news).toArray ++ zc)[j]? = some (((olds ++ news).toArray ++ zc).getD j undef) := by
        rw [Array.getElem?_eq_getElem hlt2]; rw [Array.getD_eq_getD_getElem?, Array.getElem?_eq_getElem hlt2]; rfl
      simpa using this
    · show Value.oneCell' (((olds ++ news).toArray ++ zc).getD j undef) = true
      rw [pair_getD _ _ _ _ hlt]
      split
      · next h => exact ox _ (by simp [List.getD, h])
      · next h => exact oy _ (by
          have : j - olds.length < news.length := by omega
          simp [List.getD, this])
  · refine ⟨xs.length + ys.length, e, List.getElem?_set_self hgl, Nat.le_refl _, fun _ => .inr ⟨E.w.heap.size, _, List.getElem?_set_self hgm, rfl, hnew, hsize⟩⟩

/-- append onto the newest slice of a growing row. -/
theorem append_grow {t tx ty e : TypeId} {i : TI} (hE : Wf G E) (hu : P.underlying t = some (.slice e)) (hi : i.ok P e) {g : Nat} {nl : Bool} {xs : List AVal} {x y : Value} {v : AVal}
    (hx : R E (.sl i.size nl xs (.grow g)) x) (hS : E.S[g]? = some (.grow xs.length i.size e)) (hy : R E v y) (hok : srcOk E.S i.size v)
    (hks : ∀ s, v = .str s → P.underlying tx = some .string) (hkl : (∀ s, v ≠ .str s) → ∃ e', P.underlying tx = some (.slice e'))
    (h63 : xs.length + (srcOf E.S v).length ≤ maxLen) (hby : (xs.length + (srcOf E.S v).length) * i.bytes ≤ 140737488355328) :
    ROk G E (E.S.set g (.grow (xs.length + (srcOf E.S v).length) i.size e)) (.sl i.size (nl && (srcOf E.S v).isEmpty) (xs ++ srcOf E.S v) (.grow g)) ((Builtin.append_ #[t, tx] ty #[x, y]).run P E.w) := by
  obtain ⟨news, hsrc, cy, ry⟩ := src_ok hE hy hok hks hkl
  have hii := hi
  obtain ⟨inf, z, hinf, hz, hzl, hzs, _, _⟩ := ofCells_zero hi
  obtain ⟨_, inf', _, hinf', hs, hb', _, _, _, _, _, _⟩ := hi
  have : inf' = inf := by rw [hinf] at hinf'; injection hinf' with h; exact h.symm
  subst this
  generalize hys : srcOf E.S v = ys at *
  have hnl : news.length = ys.length * i.size := hsrc.newsLen
  have h63i : ((xs.length + ys.length : Nat) : Int) ≤ 9223372036854775807 := by simp only [maxLen] at h63; omega
  have hsrc' : Src P inf'.size tx y ys.length news E.w := by rw [hs]; exact hsrc
  rcases Nat.eq_zero_or_pos ys.length with h0 | hpos
  · have hy0 : ys = [] := List.eq_nil_of_length_eq_zero h0
    subst hy0
    have hn0 : news = [] := List.eq_nil_of_length_eq_zero (by simpa using hnl)
    subst hn0
    have hle : ∀ a n c, x = .slice a n c → n ≤ c := by
      intro a n c hxe
      cases hx with
      | slnil => injection hxe with _ h1 h2; omega
      | sl _ _ _ _ _ _ _ _ hc => injection hxe with _ h1 h2; omega
    have hsl : ∃ a n c, x = .slice a n c := by cases hx <;> exact ⟨_, _, _, rfl⟩
    obtain ⟨a, n, c, rfl⟩ := hsl
    have hrun := run_append_nothing (P := P) E.w t tx ty e inf' hu hinf a n c (hle a n c rfl) y hsrc'
    simp only [List.length_nil, Nat.add_zero, List.append_nil, List.isEmpty_nil, Bool.and_true, set_same hS]
    exact .pure hE hrun hx
  · have hne : ys.isEmpty = false := by cases ys with | nil => simp at hpos | cons => rfl
    rw [hne, Bool.and_false]
    -- the new row
    have grows : ∀ (a : Option Addr) (c : Nat) (olds : List Value), olds.length = xs.length * i.size → (∀ k (h : k < xs.length), (xs[k]).cells.length = i.size) →
        (∀ k (h : k < xs.length) j (hj : j < (xs[k]).cells.length), R E ((xs[k]).cells[j]) (olds.getD (k * i.size + j) undef)) → (∀ u ∈ olds, u.oneCell' = true) →
        (Builtin.firstCells i.size xs.length (.slice a xs.length c)).run P E.w.drew = .ok olds.toArray E.w.drew → c < xs.length + ys.length →
        ROk G E (E.S.set g (.grow (xs.length + ys.length) i.size e)) (.sl i.size false (xs ++ ys) (.grow g)) ((Builtin.append_ #[t, tx] ty #[.slice a xs.length c, y]).run P E.w) := by
      intro a c olds hol cx rx ox hfc hg
      have hrun := run_append_grow_src (P := P) E.w t tx ty e inf' z hu hinf hz a xs.length c olds (by rw [hs]; exact hfc) y ys.length news hsrc' hg h63i (by rw [hb']; exact growslice_fits hg hby)
      have hge := grownCap_ge E.w (xs.length + ys.length) c e
      have hcm : grownCap E.w (xs.length + ys.length) c e ≤ maxLen := grownCap_le_maxLen E.w (xs.length + ys.length) c e h63
      obtain ⟨E', hw, k1, k2, k3, k4⟩ := append_new hE (Builtin.zeroCells z.cells (grownCap E.w (xs.length + ys.length) c e - (xs.length + ys.length))) (grownCap E.w (xs.length + ys.length) c e) hS hol hnl cx cy rx ry ox hsrc.one hge hcm
        (by rw [size_zeroCells, hzl, hzs]) hpos
      exact ⟨E', _, by rw [hrun, hw], k1, k2, k3, k4⟩
    cases hx with
    | slnil _ _ ht =>
      exact grows none 0 [] (by simp) (fun k h => by simp at h) (fun k h => by simp at h) (fun u hu => by cases hu) (run_firstCells_none E.w.drew _ _ _ _) (by simpa using hpos)
    | sl _ _ _ ad n c f hn hc hm hf hcs hr ht =>
      subst hn
      have hcold : ∀ j u, ((List.range (xs.length * i.size)).map f)[j]? = some u → E.w.cell? (ad.add j) = some u := by
        intro j u hu
        obtain ⟨hj, e⟩ := List.getElem?_eq_some_iff.1 hu
        simp only [List.length_map, List.length_range] at hj
        have := (hf j hj).2.1
        simpa [← e] using this
      have rold : ∀ k (h : k < xs.length) j (hj : j < (xs[k]).cells.length), R E ((xs[k]).cells[j]) (((List.range (xs.length * i.size)).map f).getD (k * i.size + j) undef) := by
        intro k h j hj
        have hlt : k * i.size + j < xs.length * i.size := by
          have hj' : j < i.size := by have := hcs k h; omega
          have : (k + 1) * i.size ≤ xs.length * i.size := Nat.mul_le_mul_right _ h
          rw [Nat.add_mul] at this; omega
        rw [toList_getD _ _ _ hlt]
        exact hr k h j hj
      have oold : ∀ u ∈ (List.range (xs.length * i.size)).map f, u.oneCell' = true := by
        intro u hu
        obtain ⟨j, hj, rfl⟩ := List.mem_map.1 hu
        exact (hf j (by simpa using hj)).2.2.2
      rcases Nat.lt_or_ge c (xs.length + ys.length) with hg | hroom
      · exact grows (some ad) c _ (by simp) hcs rold oold (run_firstCells_some E.w.drew _ _ ad _ c _ (by simp) (by simpa using hcold)) hg
      · -- in place
        obtain ⟨m, t', hS', hnm, htag⟩ := ht
        rw [hS] at hS'; injection hS' with hS'; injection hS' with e1 e2 e3
        subst e1 e3
        rcases htag rfl with ⟨_, hcc⟩ | ⟨b, arr, hmu, had, hheap, hasz⟩
        · omega
        · injection had with had
          subst had
          have hfit : xs.length * i.size + 0 + news.length ≤ arr.size := by
            rw [hasz, hnl, Nat.add_zero, ← Nat.add_mul]; exact Nat.mul_le_mul_right _ hroom
          obtain ⟨w', s1, s2, s3, s4⟩ := run_storeCells_put (P := P) b e news (xs.length * i.size) 0 arr E.w hheap hfit hsrc.one
          have hrun : (Builtin.append_ #[t, tx] ty #[.slice (some ⟨b, 0, none⟩) xs.length c, y]).run P E.w = .ok (.slice (some ⟨b, 0, none⟩) (xs.length + ys.length) c) w' := by
            rcases hsrc'.kind with ⟨e', hk⟩ | hk <;>
              simp [Builtin.append_, run_underlying hu, run_underlying hk, sizeOf, typeInfo, hinf, hsrc'.len, hroom, hsrc.cells, hs, add_form ⟨b, 0, none⟩ _ rfl, s1]
          have hbase : E.base ≤ b := by
            rcases hE.entry g _ hS with h | ⟨b', _, h1, h2, _, _⟩
            · rw [hmu] at h; cases h
            · rw [hmu] at h1; injection h1 with h1; injection h1 with h1; rw [h1]; exact h2
          have hput : ∀ p, (putArr arr (xs.length * i.size) news).getD p undef = if xs.length * i.size ≤ p ∧ p < xs.length * i.size + news.length then news.getD (p - xs.length * i.size) undef else arr.getD p undef :=
            fun p => putArr_getD news arr _ p (by simpa using hfit)
          have hpsize : (putArr arr (xs.length * i.size) news).size = c * i.size := by rw [putArr_size, hasz]
          obtain ⟨k1, k2⟩ := env_grow hE (arr' := putArr arr (xs.length * i.size) news) (m := ys.length) hmu hS hbase s3 hheap (by simpa using s2) (by rw [hpsize]; exact Nat.mul_le_mul_right _ hroom) hpos (fun o ho => by
            have h1 := hput o
            rw [if_neg (by omega)] at h1
            have ho1 : o < arr.size := by
              have : xs.length * i.size ≤ arr.size := by omega
              omega
            have ho2 : o < (putArr arr (xs.length * i.size) news).size := by rw [putArr_size]; exact ho1
            simp only [Array.getD, ho1, ho2, dite_true] at h1
            rw [Array.getElem?_eq_getElem ho1, Array.getElem?_eq_getElem ho2]
            exact congrArg some h1)
          refine ⟨_, _, hrun, k1, k2, rfl, ?_⟩
          have hgl : g < E.S.length := (List.getElem?_eq_some_iff.1 hS).1
          have hold0 : ∀ j, j < xs.length * i.size → arr.getD j undef = f j := by
            intro j hj
            have := (hf j hj).2.1
            rw [add_form _ _ rfl] at this
            simp only [World.cell?, hheap, Nat.zero_add] at this
            have hj2 : j < arr.size := by omega
            simp only [Option.isSome_none, Bool.false_eq_true, if_false] at this
            rw [Array.getElem?_eq_getElem hj2] at this
            injection this with this
            simp [Array.getD, hj2, this]
          have heq : ∀ p, p < ((List.range (xs.length * i.size)).map f).length + news.length → (putArr arr (xs.length * i.size) news).getD p undef = (((List.range (xs.length * i.size)).map f ++ news).toArray ++ (#[] : Array Value)).getD p undef := by
            intro p hp
            rw [hput p, pair_getD _ _ _ _ hp]
            simp only [List.length_map, List.length_range] at hp ⊢
            by_cases hc2 : p < xs.length * i.size
            · rw [if_neg (by omega), if_pos hc2, hold0 p hc2, toList_getD _ _ _ hc2]
            · rw [if_pos ⟨by omega, by omega⟩, if_neg hc2]
          obtain ⟨cc, rr⟩ := pair_rel (Q := R _) (#[] : Array Value) (olds := (List.range (xs.length * i.size)).map f) (by simp) hnl hcs cy (fun k h j hj => (rold k h j hj).ext hE k1) (fun k h j hj => (ry k h j hj).ext hE k1)
          refine .sl i.size _ _ _ _ _ (fun j => (putArr arr (xs.length * i.size) news).getD j undef) (by simp) hroom hm (fun j hj => ?_) cc (fun k h j hj => ?_) ?_
          · have hj2 : j < (putArr arr (xs.length * i.size) news).size := by
              rw [hpsize]
              exact Nat.lt_of_lt_of_le hj (Nat.mul_le_mul_right _ hroom)
            have hw2 : w'.heap[b]? = some (.cells (putArr arr (xs.length * i.size) news) e (0, 0)) := by simpa using s2
            refine ⟨rfl, ?_, ⟨Nat.lt_of_lt_of_le (hE.lt g b hmu) s3.size, .inr (.inr ⟨hbase, g, xs.length + ys.length, i.size, e, hmu, List.getElem?_set_self hgl, by simpa using hj⟩)⟩, ?_⟩
            · rw [add_form _ _ rfl]
              simp only [World.cell?]
              rw [hw2]
              simp [Array.getD, hj2]
            · show Value.oneCell' ((putArr arr (xs.length * i.size) news).getD j undef) = true
              rw [hput j]
              split
              · next hc2 => exact hsrc.one _ (by
                  have : j - xs.length * i.size < news.length := by omega
                  simp [List.getD, this])
              · next hc2 =>
                have hj3 : j < xs.length * i.size := by
                  rw [Nat.add_mul] at hj; rw [hnl] at hc2; omega
                rw [hold0 j hj3]
                exact (hf j hj3).2.2.2
          · have hlt : k * i.size + j < ((List.range (xs.length * i.size)).map f).length + news.length := by
              have hj' : j < i.size := by rw [← cc k h]; exact hj
              have h' : k < xs.length + ys.length := by simpa using h
              have : (k + 1) * i.size ≤ (xs.length + ys.length) * i.size := Nat.mul_le_mul_right _ h'
              rw [Nat.add_mul, Nat.add_mul] at this
              simp only [List.length_map, List.length_range, hnl]; omega
            have := rr k h j hj
            rw [← heq _ hlt] at this
            exact this
          · refine ⟨xs.length + ys.length, e, List.getElem?_set_self hgl, Nat.le_refl _, fun _ => .inr ⟨b, _, hmu, rfl, by simpa using s2, hpsize⟩⟩
end
end Go.Am
