/- The abstract layer: append, copy, and what they take their elements from. -/
import Derived.Test.YtbkfnbnechpolaaDoorAmOps5
import Derived.Deep.AppendSrc
import Derived.Deep.Upon
set_option linter.unusedVariables false
set_option linter.unusedSimpArgs false
namespace Go.Am
open Go

def bv (b : UInt8) : AVal := .int .u8 (b.toNat : Int)
def bl (l : List UInt8) : List AVal := l.map bv

section
variable {P : Program} {G : Nat → Option AVal} {E : Env}

/-- What a second argument of append, or of copy, yields: its elements. -/
def srcOf (S : St) : AVal → List AVal
  | .sl _ _ xs _ => xs
  | .str s => bl s
  | .view i off n _ => match S[i]? with
      | some (.cells cs _) => (cs.drop off).take n
      | _ => []
  | _ => []

def srcOk (S : St) (sz : Nat) : AVal → Prop
  | .sl sz' _ xs _ => sz' = sz ∨ xs = []
  | .str _ => sz = 1
  | .view i off n _ => sz = 1 ∧ ∃ cs t, S[i]? = some (ABox.cells cs t) ∧ off + n ≤ cs.length ∧ ∀ c ∈ (cs.drop off).take n, c.one = true
  | _ => False

theorem one_cells {c : AVal} (h : c.one = true) : c.cells = [c] := by cases c <;> first | rfl | (simp [AVal.one] at h)

/-- An array that nobody writes, sliced. -/
theorem slice_carr {P : Program} {G : Nat → Option AVal} {E : Env} {t e : TypeId} {m : Nat} {i : TI} (hE : Wf G E) (hu : P.underlying t = some (.array m e)) (hi : i.ok P e) (hsz : i.size = 1) {cs : List AVal} {x : Value}
    (hx : R E (.cptr cs) x) (hone : ∀ c ∈ cs, c.one = true) (hm : m ≤ cs.length) (hml : m ≤ maxLen) (lo h : Bd) (p1 : lo.pos) (p2 : h.pos) (h1 : lo.at 0 ≤ h.at m) (h2 : h.at m ≤ m) (h3 : lo.at 0 < m ∨ lo.at 0 = 0) :
    ROk G E E.S (.sl 1 false ((cs.take (h.at m)).drop (lo.at 0)) .any) ((Instr.sliceAt t x lo.val h.val none).run P E.w) := by
  obtain ⟨_, inf, z, hinf, hs, _, _, _, _, _, _, _⟩ := hi
  cases hx with
  | cptr _ ad f hf hr =>
    have hb := run_sliceBounds (P := P) false m m lo h none p1 p2 trivial h1 h2 (Nat.le_refl _) (by simp) E.w
    simp only [Bd.val, Option.map_none] at hb
    have hlen : ((cs.take (h.at m)).drop (lo.at 0)).length = h.at m - lo.at 0 := by simp; omega
    have key : ∀ ad' : Addr, ad' = ad.add (lo.at 0) → (ad.spot = none → True) → R E (.sl 1 false ((cs.take (h.at m)).drop (lo.at 0)) .any) (.slice (some ad') (h.at m - lo.at 0) (m - lo.at 0)) := by
      intro ad' e _
      subst e
      refine .sl 1 _ .any _ _ _ (fun j => f (lo.at 0 + j)) hlen.symm (by omega) (by omega) (fun j hj => ?_) (fun k hk => ?_) (fun k hk j hj => ?_) trivial
      · have hj' : lo.at 0 + j < cs.length := by omega
        obtain ⟨a1, a2, a3, a4⟩ := hf _ hj'
        refine ⟨by rw [add_form _ _ a1], ?_, ?_, a4⟩
        · rw [add_form _ _ a1] at a2 ⊢
          rw [add_form _ _ rfl]
          simpa [Nat.add_assoc] using a2
        · rw [add_form _ _ a1]
          simpa [Nat.add_assoc] using a3
      · have hc := hone _ (List.mem_of_mem_take (List.mem_of_mem_drop (List.getElem_mem hk)))
        rw [one_cells hc]; rfl
      · have hc := hone _ (List.mem_of_mem_take (List.mem_of_mem_drop (List.getElem_mem hk)))
        have e1 := one_cells hc
        have hj0 : j = 0 := by rw [e1] at hj; simpa using hj
        subst hj0
        have hk' : lo.at 0 + k < cs.length := by rw [hlen] at hk; omega
        have e2 : (((cs.take (h.at m)).drop (lo.at 0))[k]).cells[0] = cs[lo.at 0 + k] := by
          simp only [e1, List.getElem_cons_zero]
          simp
        rw [e2]
        simpa using hr _ hk'
    have hsp : 0 < cs.length → ad.spot = none := fun h => (hf 0 h).1
    have hrun : (Instr.sliceAt t (.pointer (some ad)) lo.val h.val none).run P E.w = .ok (.slice (some (if m = lo.at 0 then ad else ad.add (lo.at 0 * i.size))) (h.at m - lo.at 0) (m - lo.at 0)) E.w := by
      simp only [Instr.sliceAt, run_underlying hu, Sem.run_bind, Result.andThen_ok, Instr.sureAddr, Sem.run_pure, run_sizeOf hinf, hs]
      simp only [Bd.val, hb, Result.andThen_ok]
      rfl
    refine .pure hE hrun (key _ ?_ (fun _ => trivial))
    rw [hsz, Nat.mul_one]
    split
    · next e =>
      have h0 : lo.at 0 = 0 := by omega
      rw [h0]; cases ad; rfl
    · rfl


theorem toList_getD (f : Nat → Value) (n j : Nat) (h : j < n) : ((List.range n).map f).getD j undef = f j := by
  simp [List.getD, h]

theorem src_ok {sz : Nat} {tx : TypeId} (hE : Wf G E) {v : AVal} {x : Value} (hx : R E v x) (hok : srcOk E.S sz v)
    (hks : ∀ s, v = .str s → P.underlying tx = some .string) (hkl : (∀ s, v ≠ .str s) → ∃ e', P.underlying tx = some (.slice e')) :
    ∃ news : List Value, Src P sz tx x (srcOf E.S v).length news E.w ∧ (∀ k (h : k < (srcOf E.S v).length), ((srcOf E.S v)[k]).cells.length = sz) ∧
      ∀ k (h : k < (srcOf E.S v).length) j (hj : j < ((srcOf E.S v)[k]).cells.length), R E (((srcOf E.S v)[k]).cells[j]) (news.getD (k * sz + j) undef) := by
  cases hx <;> try (exact (id hok : False).elim)
  case str b l hl =>
    subst hl
    simp only [srcOk] at hok
    subst hok
    have hlen : (srcOf E.S (.str b.data.toList)).length = b.size := by simp [srcOf, bl]
    refine ⟨byteCells b, by rw [hlen]; exact Src.ofString E.w (hks _ rfl) b, fun k h => ?_, fun k h j hj => ?_⟩
    · simp [srcOf, bl, bv, AVal.cells]
    · have hkb : k < b.data.size := by rw [hlen] at h; exact h
      have hj0 : j = 0 := by simp [srcOf, bl, bv, AVal.cells] at hj; omega
      subst hj0
      have e : (byteCells b).getD (k * 1 + 0) undef = .int .u8 (b.data[k].toNat : Int) := by
        simp [byteCells, List.getD, Array.getElem?_eq_getElem hkb]
      rw [e]
      simp only [srcOf, bl, List.getElem_map, bv, AVal.cells, List.getElem_cons_zero, Array.getElem_toList]
      exact .int _ _
  case slnil sz' tg ht =>
    obtain ⟨e', he⟩ := hkl (by intro s h; cases h)
    exact ⟨[], Src.ofNil E.w he 0, fun k h => by simp [srcOf] at h, fun k h => by simp [srcOf] at h⟩
  case sl sz' xs tg ad n c f hn hc hm hf hcs hr ht =>
    obtain ⟨e', he⟩ := hkl (by intro s h; cases h)
    subst hn
    rcases hok with h | h
    · subst h
      refine ⟨(List.range (xs.length * sz')).map f, Src.ofSlice E.w he ad _ c _ (by simp [srcOf]) (fun j u hu => ?_) (fun u hu => ?_), hcs, fun k h j hj => ?_⟩
      · obtain ⟨hj, e⟩ := List.getElem?_eq_some_iff.1 hu
        simp only [List.length_map, List.length_range] at hj
        have := (hf j hj).2.1
        simpa [← e] using this
      · obtain ⟨j, hj, rfl⟩ := List.mem_map.1 hu
        exact (hf j (by simpa using hj)).2.2.2
      · have hlt : k * sz' + j < xs.length * sz' := by
          have h' : k < xs.length := h
          have hj' : j < sz' := by have := hcs k h'; simp only [srcOf] at hj; omega
          have : (k + 1) * sz' ≤ xs.length * sz' := Nat.mul_le_mul_right _ h'
          rw [Nat.add_mul] at this; omega
        rw [toList_getD _ _ _ hlt]
        exact hr k h j hj
    · subst h
      exact ⟨[], Src.ofSlice E.w he ad _ c _ (by simp [srcOf]) (fun j u hu => by simp at hu) (fun u hu => by cases hu), fun k h => by simp [srcOf] at h, fun k h => by simp [srcOf] at h⟩
  case view i off n cap b hnc hm hb =>
    obtain ⟨e', he⟩ := hkl (by intro s h; cases h)
    obtain ⟨h1, cs, t, hS, hfit, hone⟩ := hok
    subst h1
    obtain ⟨b', arr, g1, g2, g3, g4⟩ := hE.entry i _ hS
    have : b' = b := by rw [hm] at g1; injection g1 with g1; injection g1 with g1; exact g1.symm
    subst this
    have hsrc : srcOf E.S (.view i off n cap) = (cs.drop off).take n := by simp [srcOf, hS]
    have hlen : ((cs.drop off).take n).length = n := by simp; omega
    rw [hsrc]
    have hS' : Src P 1 tx (.slice (some ⟨b', off, none⟩) n cap) n ((List.range n).map fun j => arr.getD (off + j) undef) E.w := by
      refine Src.ofSlice E.w he ⟨b', off, none⟩ n cap _ (by simp) (fun j u hu => ?_) (fun u hu => ?_)
      · obtain ⟨hj, e⟩ := List.getElem?_eq_some_iff.1 hu
        simp only [List.length_map, List.length_range] at hj
        have hlt : off + j < arr.size := by omega
        rw [add_form _ _ rfl]
        simp [World.cell?, g2, hlt, ← e, Array.getD]
      · obtain ⟨j, hj, rfl⟩ := List.mem_map.1 hu
        exact (g4 (off + j) (by simp at hj; omega)).2
    refine ⟨(List.range n).map fun j => arr.getD (off + j) undef, by rw [hlen]; exact hS', fun k h => ?_, fun k h j hj => ?_⟩
    · rw [one_cells (hone _ (List.getElem_mem h))]; rfl
    · have hc1 := one_cells (hone _ (List.getElem_mem h))
      have hj0 : j = 0 := by rw [hc1] at hj; simp at hj; omega
      subst hj0
      rw [hlen] at h
      rw [Nat.mul_one, Nat.add_zero, toList_getD _ _ _ h]
      have := (g4 (off + k) (by omega)).1
      have e0 : ∀ (c : AVal) (hc : c.cells = [c]) (h0 : 0 < c.cells.length), c.cells[0] = c := fun c hc h0 => by simpa using List.getElem_of_eq hc h0
      rw [e0 _ hc1]
      simpa using this

/-! ### What an environment becomes when a row grows -/
/-- A growing row that has no memory yet. -/
theorem env_ghost (hE : Wf G E) (n sz : Nat) (t : TypeId) :
    Ext E { E with mu := E.mu ++ [none], S := E.S ++ [.grow n sz t] } ∧ Wf G { E with mu := E.mu ++ [none], S := E.S ++ [.grow n sz t] } := by
  have lt_of : ∀ (i : Nat) (y : ABox), E.S[i]? = some y → i < E.S.length := fun i y h => by
    rcases Nat.lt_or_ge i E.S.length with hlt | hge
    · exact hlt
    · rw [List.getElem?_eq_none hge] at h; cases h
  have hmu : ∀ i : Nat, i < E.S.length → (E.mu ++ [none])[i]? = E.mu[i]? := fun i hi => List.getElem?_append_left (by rw [hE.len]; exact hi)
  have hS : ∀ (i : Nat), i < E.S.length → (E.S ++ [ABox.grow n sz t])[i]? = E.S[i]? := fun i hi => List.getElem?_append_left hi
  have hmem : ∀ (i c : Nat), (E.mu ++ [none])[i]? = some (some c) → i < E.S.length ∧ E.mu[i]? = some (some c) := by
    intro i c h
    rw [List.getElem?_append] at h
    split at h
    · exact ⟨by rw [← hE.len]; assumption, h⟩
    · rcases hi : i - E.mu.length with _ | k
      · rw [hi] at h; simp at h
      · rw [hi] at h; simp at h
  have hxt : Ext E { E with mu := E.mu ++ [none], S := E.S ++ [.grow n sz t] } :=
    ⟨rfl, rfl, rfl, Nat.le_refl _, rfl, rfl, rfl, by simp, fun c _ hf => ⟨fun i h => hf i (hmem i c h).2, rfl⟩, fun i y h hy => ⟨hmu i (lt_of i y h), y, (hS i (lt_of i y h)).trans h, hy⟩,
      fun i n' sz' t' h => ⟨n', (hS i (lt_of i _ h)).trans h, Nat.le_refl _, fun _ => ⟨hmu i (lt_of i _ h), fun _ _ => rfl⟩, fun c hc => ⟨fun _ _ => rfl, .inl ((hmu i (lt_of i _ h)).trans hc)⟩⟩, fun i c _ h hc => ⟨(hS i (lt_of i _ h)).trans h, rfl⟩⟩
  refine ⟨hxt, by simp [hE.len], fun i j b h1 h2 => hE.inj i j b (hmem i b h1).2 (hmem j b h2).2, fun i b h => hE.lt i b (hmem i b h).2, hE.base, fun b o hb ho => (hxt.free b (Nat.lt_of_lt_of_le hb hE.base) (hE.im b o hb ho)).1, fun i y h => ?_, fun g v h => (hE.glob g v h).ext hE hxt⟩
  have h' : (E.S ++ [ABox.grow n sz t])[i]? = some y := h
  rw [List.getElem?_append] at h'
  split at h'
  · next hl => exact (hE.entry i y h').keep hE hxt (hmu i hl) fun _ _ => rfl
  · rcases hi : i - E.S.length with _ | k
    · rw [hi] at h'
      simp at h'
      subst h'
      refine .inl ?_
      have : i = E.mu.length := by rw [hE.len]; omega
      subst this
      simp
    · rw [hi] at h'; simp at h'

/-- A row grows in place. -/
theorem env_grow (hE : Wf G E) {g n sz b m : Nat} {t : TypeId} {arr arr' : Array Value} {w' : World} (hm : E.mu[g]? = some (some b)) (hS : E.S[g]? = some (.grow n sz t)) (hb : E.base ≤ b)
    (hg : E.w.grownBy w' (some b)) (ho : E.w.heap[b]? = some (.cells arr t (0, 0))) (hw : w'.heap[b]? = some (.cells arr' t (0, 0))) (hsz : (n + m) * sz ≤ arr'.size) (hpos : 0 < m)
    (hsame : ∀ o, o < n * sz → arr'[o]? = arr[o]?) :
    Ext E { E with w := w', S := E.S.set g (.grow (n + m) sz t) } ∧ Wf G { E with w := w', S := E.S.set g (.grow (n + m) sz t) } := by
  have hi := hE.mu_lt hm
  have hblk : ∀ c, c < E.w.heap.size → c ≠ b → w'.heap[c]? = E.w.heap[c]? := fun c hc hne => hg.block c hc (by simpa using hne)
  have hother : ∀ (j c : Nat), j ≠ g → E.mu[j]? = some (some c) → w'.heap[c]? = E.w.heap[c]? := fun j c hj h =>
    hblk c (hE.lt j c h) (fun e => hj (hE.inj j g b (e ▸ h) hm))
  have hxt : Ext E { E with w := w', S := E.S.set g (.grow (n + m) sz t) } := by
    refine ⟨rfl, rfl, rfl, hg.size, hg.os, hg.tape, hg.output, by simp, fun c hc hf => ⟨hf, hblk c hc (fun e => hf g (e ▸ hm))⟩, fun j z h hz => ⟨rfl, ?_⟩, fun j n' sz' t' h => ?_, fun j c o h hc => ?_⟩
    · have e : g ≠ j := by
        rintro rfl
        rw [hS] at h; injection h with h; subst h; simp [ABox.isGrow] at hz
      exact ⟨z, by simp [List.getElem?_set_ne e, h], hz⟩
    · by_cases e : g = j
      · subst e
        rw [hS] at h; injection h with h; injection h with h1 h2 h3
        subst h1 h2 h3
        refine ⟨n + m, by simp [hi], by omega, fun e => by omega, fun c hc => ?_⟩
        have : c = b := by rw [hm] at hc; injection hc with hc; injection hc with hc; exact hc.symm
        subst this
        exact ⟨fun o h => by simp [World.cell?, ho, hw, hsame o h], .inl hm⟩
      · exact ⟨n', by simp [List.getElem?_set_ne e, h], Nat.le_refl _, fun _ => ⟨rfl, fun c hc => hother j c (Ne.symm e) hc⟩, fun c hc => ⟨fun o _ => cell_same (hother j c (Ne.symm e) hc) _ _, .inl hc⟩⟩
    · have e : g ≠ j := by
        rintro rfl
        rw [hS] at h; injection h with h; cases h
      exact ⟨(List.getElem?_set_ne e).trans h, hother j c (Ne.symm e) hc⟩
  refine ⟨hxt, by simp [hE.len], hE.inj, fun j c h => Nat.lt_of_lt_of_le (hE.lt j c h) hg.size, Nat.le_trans hE.base hg.size, hE.im, fun j z h => ?_, fun g v h => (hE.glob g v h).ext hE hxt⟩
  by_cases e : g = j
  · subst e
    have : z = .grow (n + m) sz t := by simpa [hi] using h.symm
    subst this
    exact .inr ⟨b, arr', hm, hb, hw, hsz⟩
  · have h' : E.S[j]? = some z := by simpa [List.getElem?_set_ne e] using h
    exact (hE.entry j z h').keep hE hxt rfl fun c hc => hother j c (Ne.symm e) hc

/-- A row grows into new memory. -/
theorem env_move (hE : Wf G E) {g n sz b m : Nat} {t : TypeId} {arr' : Array Value} {w' : World} (hgl : g < E.S.length) (hS : E.S[g]? = some (.grow n sz t)) (hg : E.w.grownBy w' none) (hb : E.w.heap.size ≤ b) (hb' : b < w'.heap.size)
    (hw : w'.heap[b]? = some (.cells arr' t (0, 0))) (hsz : (n + m) * sz ≤ arr'.size) (hpos : 0 < m) :
    Ext E { E with w := w', mu := E.mu.set g (some b), S := E.S.set g (.grow (n + m) sz t) } ∧ Wf G { E with w := w', mu := E.mu.set g (some b), S := E.S.set g (.grow (n + m) sz t) } := by
  have hgm : g < E.mu.length := by rw [hE.len]; exact hgl
  have hblk : ∀ c, c < E.w.heap.size → w'.heap[c]? = E.w.heap[c]? := fun c hc => hg.block c hc (by simp)
  have hmem : ∀ (i c : Nat), (E.mu.set g (some b))[i]? = some (some c) → (i = g ∧ c = b) ∨ (i ≠ g ∧ E.mu[i]? = some (some c)) := by
    intro i c h
    by_cases e : g = i
    · subst e
      rw [List.getElem?_set_self hgm] at h
      injection h with h; injection h with h
      exact .inl ⟨rfl, h.symm⟩
    · rw [List.getElem?_set_ne e] at h
      exact .inr ⟨Ne.symm e, h⟩
  have hfree : ∀ c, c < E.w.heap.size → (∀ i, i ≠ g → E.mu[i]? ≠ some (some c)) → ∀ i : Nat, (E.mu.set g (some b))[i]? ≠ some (some c) := by
    intro c hc hf i h
    rcases hmem i c h with ⟨_, e⟩ | ⟨e, h⟩
    · omega
    · exact hf i e h
  have hxt : Ext E { E with w := w', mu := E.mu.set g (some b), S := E.S.set g (.grow (n + m) sz t) } := by
    refine ⟨rfl, rfl, rfl, hg.size, hg.os, hg.tape, hg.output, by simp, fun c hc hf => ⟨hfree c hc fun i _ => hf i, hblk c hc⟩, fun j z h hz => ?_, fun j n' sz' t' h => ?_, fun j c o h hc => ?_⟩
    · have e : g ≠ j := by
        rintro rfl
        rw [hS] at h; injection h with h; subst h; simp [ABox.isGrow] at hz
      exact ⟨List.getElem?_set_ne e, z, by simp [List.getElem?_set_ne e, h], hz⟩
    · by_cases e : g = j
      · subst e
        rw [hS] at h; injection h with h; injection h with h1 h2 h3
        subst h1 h2 h3
        refine ⟨n + m, by simp [hgl], by omega, fun e => by omega, fun c hc => ⟨fun o _ => cell_same (hblk c (hE.lt g c hc)) _ _, .inr ?_⟩⟩
        exact hfree c (hE.lt g c hc) fun i hi h => hi (hE.inj i g c h hc)
      · exact ⟨n', by simp [List.getElem?_set_ne e, h], Nat.le_refl _, fun _ => ⟨List.getElem?_set_ne e, fun c hc => hblk c (hE.lt j c hc)⟩, fun c hc => ⟨fun o _ => cell_same (hblk c (hE.lt j c hc)) _ _, .inl (by rw [List.getElem?_set_ne e]; exact hc)⟩⟩
    · have e : g ≠ j := by
        rintro rfl
        rw [hS] at h; injection h with h; cases h
      exact ⟨(List.getElem?_set_ne e).trans h, hblk c (hE.lt j c hc)⟩
  refine ⟨hxt, by simp [hE.len], fun i j c h1 h2 => ?_, fun i c h => ?_, Nat.le_trans hE.base hg.size, fun c o hc ho => (hxt.free c (Nat.lt_of_lt_of_le hc hE.base) (hE.im c o hc ho)).1, fun j z h => ?_, fun g v h => (hE.glob g v h).ext hE hxt⟩
  · rcases hmem i c h1 with ⟨e1, c1⟩ | ⟨e1, m1⟩ <;> rcases hmem j c h2 with ⟨e2, c2⟩ | ⟨e2, m2⟩
    · omega
    · have := hE.lt j c m2; omega
    · have := hE.lt i c m1; omega
    · exact hE.inj i j c m1 m2
  · rcases hmem i c h with ⟨e1, c1⟩ | ⟨e1, m1⟩
    · show c < w'.heap.size; omega
    · exact Nat.lt_of_lt_of_le (hE.lt i c m1) hg.size
  · by_cases e : g = j
    · subst e
      have : z = .grow (n + m) sz t := by simpa [hgl] using h.symm
      subst this
      exact .inr ⟨b, arr', List.getElem?_set_self hgm, Nat.le_trans hE.base hb, hw, hsz⟩
    · have h' : E.S[j]? = some z := by simpa [List.getElem?_set_ne e] using h
      exact (hE.entry j z h').keep hE hxt (List.getElem?_set_ne e) fun c hc => hblk c (hE.lt j c hc)

/-- A place for a box that is yet to be made. -/
theorem env_hole (hE : Wf G E) : Ext E { E with mu := E.mu ++ [none], S := E.S ++ [.hole] } ∧ Wf G { E with mu := E.mu ++ [none], S := E.S ++ [.hole] } := by
  have lt_of : ∀ (i : Nat) (y : ABox), E.S[i]? = some y → i < E.S.length := fun i y h => by
    rcases Nat.lt_or_ge i E.S.length with hlt | hge
    · exact hlt
    · rw [List.getElem?_eq_none hge] at h; cases h
  have hmu : ∀ i : Nat, i < E.S.length → (E.mu ++ [none])[i]? = E.mu[i]? := fun i hi => List.getElem?_append_left (by rw [hE.len]; exact hi)
  have hS : ∀ (i : Nat), i < E.S.length → (E.S ++ [ABox.hole])[i]? = E.S[i]? := fun i hi => List.getElem?_append_left hi
  have hmem : ∀ (i c : Nat), (E.mu ++ [none])[i]? = some (some c) → i < E.S.length ∧ E.mu[i]? = some (some c) := by
    intro i c h
    rw [List.getElem?_append] at h
    split at h
    · exact ⟨by rw [← hE.len]; assumption, h⟩
    · rcases hi : i - E.mu.length with _ | k
      · rw [hi] at h; simp at h
      · rw [hi] at h; simp at h
  have hxt : Ext E { E with mu := E.mu ++ [none], S := E.S ++ [.hole] } :=
    ⟨rfl, rfl, rfl, Nat.le_refl _, rfl, rfl, rfl, by simp, fun c _ hf => ⟨fun i h => hf i (hmem i c h).2, rfl⟩, fun i y h hy => ⟨hmu i (lt_of i y h), y, (hS i (lt_of i y h)).trans h, hy⟩,
      fun i n' sz' t' h => ⟨n', (hS i (lt_of i _ h)).trans h, Nat.le_refl _, fun _ => ⟨hmu i (lt_of i _ h), fun _ _ => rfl⟩, fun c hc => ⟨fun _ _ => rfl, .inl ((hmu i (lt_of i _ h)).trans hc)⟩⟩, fun i c _ h hc => ⟨(hS i (lt_of i _ h)).trans h, rfl⟩⟩
  refine ⟨hxt, by simp [hE.len], fun i j b h1 h2 => hE.inj i j b (hmem i b h1).2 (hmem j b h2).2, fun i b h => hE.lt i b (hmem i b h).2, hE.base, fun b o hb ho => (hxt.free b (Nat.lt_of_lt_of_le hb hE.base) (hE.im b o hb ho)).1, fun i y h => ?_, fun g v h => (hE.glob g v h).ext hE hxt⟩
  have h' : (E.S ++ [ABox.hole])[i]? = some y := h
  rw [List.getElem?_append] at h'
  split at h'
  · next hl => exact (hE.entry i y h').keep hE hxt (hmu i hl) fun _ _ => rfl
  · rcases hi : i - E.S.length with _ | k
    · rw [hi] at h'
      simp at h'
      subst h'
      trivial
    · rw [hi] at h'; simp at h'

/-- The place is taken by a box over a new block. -/
theorem env_fill (hE : Wf G E) {g b : Nat} {w' : World} (x : ABox) (hS : E.S[g]? = some .hole) (hg : E.w.grownBy w' none) (hb : E.w.heap.size ≤ b) (hb' : b < w'.heap.size)
    (hx : Ext E { E with w := w', mu := E.mu.set g (some b), S := E.S.set g x } → entryOk { E with w := w', mu := E.mu.set g (some b), S := E.S.set g x } g x) :
    Ext E { E with w := w', mu := E.mu.set g (some b), S := E.S.set g x } ∧ Wf G { E with w := w', mu := E.mu.set g (some b), S := E.S.set g x } := by
  have hgl : g < E.S.length := (List.getElem?_eq_some_iff.1 hS).1
  have hgm : g < E.mu.length := by rw [hE.len]; exact hgl
  have hblk : ∀ c, c < E.w.heap.size → w'.heap[c]? = E.w.heap[c]? := fun c hc => hg.block c hc (by simp)
  have hmem : ∀ (i c : Nat), (E.mu.set g (some b))[i]? = some (some c) → (i = g ∧ c = b) ∨ (i ≠ g ∧ E.mu[i]? = some (some c)) := by
    intro i c h
    by_cases e : g = i
    · subst e
      rw [List.getElem?_set_self hgm] at h
      injection h with h; injection h with h
      exact .inl ⟨rfl, h.symm⟩
    · rw [List.getElem?_set_ne e] at h
      exact .inr ⟨Ne.symm e, h⟩
  have hxt : Ext E { E with w := w', mu := E.mu.set g (some b), S := E.S.set g x } := by
    refine ⟨rfl, rfl, rfl, hg.size, hg.os, hg.tape, hg.output, by simp, fun c hc hf => ⟨fun i h => ?_, hblk c hc⟩, fun j z h hz => ?_, fun j n' sz' t' h => ?_, fun j c o h hc => ?_⟩
    · rcases hmem i c h with ⟨_, e⟩ | ⟨e, h⟩
      · omega
      · exact hf i h
    · have e : g ≠ j := by
        rintro rfl
        rw [hS] at h; injection h with h; subst h; simp [ABox.isGrow] at hz
      exact ⟨List.getElem?_set_ne e, z, by simp [List.getElem?_set_ne e, h], hz⟩
    · have e : g ≠ j := by
        rintro rfl
        rw [hS] at h; cases h
      exact ⟨n', by simp [List.getElem?_set_ne e, h], Nat.le_refl _, fun _ => ⟨List.getElem?_set_ne e, fun c hc => hblk c (hE.lt j c hc)⟩, fun c hc => ⟨fun o _ => cell_same (hblk c (hE.lt j c hc)) _ _, .inl (by rw [List.getElem?_set_ne e]; exact hc)⟩⟩
    · have e : g ≠ j := by
        rintro rfl
        rw [hS] at h; injection h with h; cases h
      exact ⟨(List.getElem?_set_ne e).trans h, hblk c (hE.lt j c hc)⟩
  refine ⟨hxt, by simp [hE.len], fun i j c h1 h2 => ?_, fun i c h => ?_, Nat.le_trans hE.base hg.size, fun c o hc ho => (hxt.free c (Nat.lt_of_lt_of_le hc hE.base) (hE.im c o hc ho)).1, fun j z h => ?_, fun g v h => (hE.glob g v h).ext hE hxt⟩
  · rcases hmem i c h1 with ⟨e1, c1⟩ | ⟨e1, m1⟩ <;> rcases hmem j c h2 with ⟨e2, c2⟩ | ⟨e2, m2⟩
    · omega
    · have := hE.lt j c m2; omega
    · have := hE.lt i c m1; omega
    · exact hE.inj i j c m1 m2
  · rcases hmem i c h with ⟨e1, c1⟩ | ⟨e1, m1⟩
    · show c < w'.heap.size; omega
    · exact Nat.lt_of_lt_of_le (hE.lt i c m1) hg.size
  · by_cases e : g = j
    · subst e
      have : z = x := by simpa [hgl] using h.symm
      subst this
      exact hx hxt
    · have h' : E.S[j]? = some z := by simpa [List.getElem?_set_ne e] using h
      exact (hE.entry j z h').keep hE hxt (List.getElem?_set_ne e) fun c hc => hblk c (hE.lt j c hc)
end
end Go.Am
