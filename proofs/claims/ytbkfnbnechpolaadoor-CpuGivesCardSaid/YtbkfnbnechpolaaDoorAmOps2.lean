/- The abstract layer: indexing, fields, building, new boxes. -/
import Derived.Test.YtbkfnbnechpolaaDoorAmOps
set_option linter.unusedVariables false
set_option linter.unusedSimpArgs false
namespace Go.Am
open Go
section
variable {P : Program} {G : Nat → Option AVal} {E : Env}

theorem cptr_drop {cs : List AVal} {ad : Addr} {f : Nat → Value} (k : Nat) (hf : ∀ j, j < cs.length → E.holds ad j (f j)) (hr : ∀ j (h : j < cs.length), R E cs[j] (f j)) :
    R E (.cptr (cs.drop k)) (.pointer (some (ad.add k))) := by
  refine .cptr _ _ (fun j => f (k + j)) (fun j hj => ?_) (fun j hj => ?_)
  · rw [List.length_drop] at hj
    obtain ⟨h1, h2, h3, h4⟩ := hf (k + j) (by omega)
    rw [add_form ad k h1]
    refine ⟨rfl, ?_, ?_, h4⟩
    · rw [add_form _ j rfl]; rw [add_form ad (k + j) h1] at h2; simpa [Nat.add_assoc] using h2
    · simpa [Nat.add_assoc] using h3
  · rw [List.length_drop] at hj
    simpa using hr (k + j) (by omega)

theorem ptr_add {b off : Nat} {x : Value} (hx : R E (.ptr b off) x) (k : Nat) : ∃ ad, x = .pointer (some ad) ∧ R E (.ptr b (off + k)) (.pointer (some (ad.add k))) := by
  cases hx with
  | ptr _ _ c hm hb =>
    refine ⟨_, rfl, ?_⟩
    rw [add_form _ k rfl]
    exact .ptr _ _ _ hm hb

/-! ### indexAddr -/
theorem index_sl {t e : TypeId} {i : TI} (hE : Wf G E) (hu : P.underlying t = some (.slice e)) (hi : i.ok P e) {sz : Nat} {nl : Bool} {xs : List AVal} {tg : Tag} {x : Value}
    (hx : R E (.sl sz nl xs tg) x) (hsz : sz = i.size) {k : IntKind} {n : Int} (h0 : 0 ≤ n) (hn : n.toNat < xs.length) :
    ROk G E E.S (.cptr ((xs.getD n.toNat .any).cells)) ((Instr.indexAt t x (.int k n)).run P E.w) := by
  cases hx with
  | slnil => simp at hn
  | sl _ _ _ ad m c f hm hc hmx hf hcs hr ht =>
    obtain ⟨_, inf, z, hinf, hs, _, _, _, _, _, _, _⟩ := hi
    have hlt : n < (m : Int) := by omega
    have hrun : (Instr.indexAt t (.slice (some ad) m c) (.int k n)).run P E.w = .ok (.pointer (some (ad.add (n.toNat * sz)))) E.w := by
      simp [Instr.indexAt, asIntOf, run_underlying hu, h0, hlt, run_sizeOf hinf, hs, hsz]
    refine .pure hE hrun ?_
    have hg : xs.getD n.toNat .any = xs[n.toNat] := by simp [List.getD, hn]
    rw [hg]
    have hl := hcs n.toNat hn
    have hbound : ∀ j, j < sz → n.toNat * sz + j < m * sz := fun j hj => by
      have : (n.toNat + 1) * sz ≤ m * sz := Nat.mul_le_mul_right _ (by omega)
      rw [Nat.add_mul] at this; omega
    refine .cptr _ _ (fun j => f (n.toNat * sz + j)) (fun j hj => ?_) (fun j hj => hr n.toNat hn j hj)
    obtain ⟨h1, h2, h3, h4⟩ := hf (n.toNat * sz + j) (hbound j (by omega))
    rw [add_form ad _ h1]
    refine ⟨rfl, ?_, ?_, h4⟩
    · rw [add_form _ j rfl]; rw [add_form ad _ h1] at h2; simpa [Nat.add_assoc] using h2
    · simpa [Nat.add_assoc] using h3

theorem index_view {t e : TypeId} {i : TI} (hE : Wf G E) (hu : P.underlying t = some (.slice e)) (hi : i.ok P e) {b off m cap : Nat} {x : Value}
    (hx : R E (.view b off m cap) x) {k : IntKind} {n : Int} (h0 : 0 ≤ n) (hn : n.toNat < m) :
    ROk G E E.S (.ptr b (off + n.toNat * i.size)) ((Instr.indexAt t x (.int k n)).run P E.w) := by
  cases hx with
  | view _ _ _ _ c hmc hm hb =>
    obtain ⟨_, inf, z, hinf, hs, _, _, _, _, _, _, _⟩ := hi
    have hlt : n < (m : Int) := by omega
    have hrun : (Instr.indexAt t (.slice (some ⟨c, off, none⟩) m cap) (.int k n)).run P E.w = .ok (.pointer (some ⟨c, off + n.toNat * i.size, none⟩)) E.w := by
      simp [Instr.indexAt, asIntOf, run_underlying hu, h0, hlt, run_sizeOf hinf, hs, add_form]
    exact .pure hE hrun (.ptr _ _ _ hm hb)

theorem index_arr_ptr {t e : TypeId} {m : Nat} {i : TI} (hE : Wf G E) (hu : P.underlying t = some (.array m e)) (hi : i.ok P e) {b off : Nat} {x : Value}
    (hx : R E (.ptr b off) x) {k : IntKind} {n : Int} (h0 : 0 ≤ n) (hn : n.toNat < m) :
    ROk G E E.S (.ptr b (off + n.toNat * i.size)) ((Instr.indexAt t x (.int k n)).run P E.w) := by
  cases hx with
  | ptr _ _ c hm hb =>
    obtain ⟨_, inf, z, hinf, hs, _, _, _, _, _, _, _⟩ := hi
    have hlt : n < (m : Int) := by omega
    have hrun : (Instr.indexAt t (.pointer (some ⟨c, off, none⟩)) (.int k n)).run P E.w = .ok (.pointer (some ⟨c, off + n.toNat * i.size, none⟩)) E.w := by
      simp [Instr.indexAt, asIntOf, run_underlying hu, h0, hlt, run_sizeOf hinf, hs, add_form, Instr.sureAddr]
    exact .pure hE hrun (.ptr _ _ _ hm hb)

theorem index_arr_cptr {t e : TypeId} {m : Nat} {i : TI} (hE : Wf G E) (hu : P.underlying t = some (.array m e)) (hi : i.ok P e) {cs : List AVal} {x : Value}
    (hx : R E (.cptr cs) x) {k : IntKind} {n : Int} (h0 : 0 ≤ n) (hn : n.toNat < m) :
    ROk G E E.S (.cptr (cs.drop (n.toNat * i.size))) ((Instr.indexAt t x (.int k n)).run P E.w) := by
  cases hx with
  | cptr _ ad f hf hr =>
    obtain ⟨_, inf, z, hinf, hs, _, _, _, _, _, _, _⟩ := hi
    have hlt : n < (m : Int) := by omega
    have hrun : (Instr.indexAt t (.pointer (some ad)) (.int k n)).run P E.w = .ok (.pointer (some (ad.add (n.toNat * i.size)))) E.w := by
      simp [Instr.indexAt, asIntOf, run_underlying hu, h0, hlt, run_sizeOf hinf, hs, Instr.sureAddr]
    exact .pure hE hrun (cptr_drop _ hf hr)

/-! ### fields -/
def fieldOf (i : TI) (k : Nat) : Option (Nat × TypeId) :=
  match i.d with
  | .struct fs => (fs[k]?).map fun f => (f.offset, f.type)
  | _ => none

theorem run_fieldAt {t : TypeId} {i j : TI} {k off : Nat} {tf : TypeId} (hi : i.ok P t) (hf : fieldOf i k = some (off, tf)) (hj : j.ok P tf) (hz : j.size ≠ 0) (ad : Addr) (w : World) :
    (Instr.fieldAt t (.pointer (some ad)) k).run P w = .ok (.pointer (some (ad.add off))) w := by
  obtain ⟨hu, _, _, _, _, _, _, _, _, _, _, _⟩ := hi
  obtain ⟨_, inf, _, hinf, hs, _, _, _, _, _, _, _⟩ := hj
  unfold fieldOf at hf
  split at hf
  · next fs hd =>
    obtain ⟨f, hfk, hff⟩ := Option.map_eq_some_iff.1 hf
    simp only [Prod.mk.injEq] at hff
    obtain ⟨rfl, rfl⟩ := hff
    rw [hd] at hu
    simp [Instr.fieldAt, run_underlying hu, hfk, Instr.sureAddr, fieldPlace, run_sizeOf hinf, hs, hz]
  · cases hf

theorem field_ptr {t : TypeId} {i j : TI} {k off : Nat} {tf : TypeId} (hE : Wf G E) (hi : i.ok P t) (hf : fieldOf i k = some (off, tf)) (hj : j.ok P tf) (hz : j.size ≠ 0) {b o : Nat} {x : Value}
    (hx : R E (.ptr b o) x) : ROk G E E.S (.ptr b (o + off)) ((Instr.fieldAt t x k).run P E.w) := by
  obtain ⟨ad, rfl, hr⟩ := ptr_add hx off
  exact .pure hE (run_fieldAt hi hf hj hz ad E.w) hr

theorem field_cptr {t : TypeId} {i j : TI} {k off : Nat} {tf : TypeId} (hE : Wf G E) (hi : i.ok P t) (hf : fieldOf i k = some (off, tf)) (hj : j.ok P tf) (hz : j.size ≠ 0) {cs : List AVal} {x : Value}
    (hx : R E (.cptr cs) x) : ROk G E E.S (.cptr (cs.drop off)) ((Instr.fieldAt t x k).run P E.w) := by
  cases hx with
  | cptr _ ad f hf' hr => exact .pure hE (run_fieldAt hi hf hj hz ad E.w) (cptr_drop off hf' hr)

/-! ### a part of an aggregate -/
theorem run_part {t : TypeId} {i : TI} (hi : i.ok P t) {cs : List AVal} {as : Array Value} (h1 : as.size = cs.length) (hx : ∀ j (h : j < cs.length), R E cs[j] (as.getD j undef)) (off : Nat)
    (hl : off + i.size ≤ cs.length) (w : World) : ∃ x, (part t as off).run P w = .ok x w ∧ R E (ofCells i ((cs.drop off).take i.size)) x := by
  have hone := hi.one
  obtain ⟨hu, inf, z, hinf, hs, _, _, _, _, _, _, _⟩ := hi
  by_cases ha : i.isAgg = true
  · have ha' : isAggD i.d = true := ha
    refine ⟨.agg (as.extract off (off + i.size)), by simp [part, run_isAgg hu, ha', run_sizeOf hinf, hs], ?_⟩
    unfold ofCells
    rw [if_pos ha]
    refine .agg _ _ (by simp; omega) fun j hj => ?_
    simp only [List.length_take, List.length_drop] at hj
    have := hx (off + j) (by omega)
    have hj2 : off + j < as.size := by omega
    have hj3 : j < min (off + i.size) as.size - off := by omega
    simpa [Array.getD, hj2, hj3] using this
  · have hsz : i.size = 1 := hone.resolve_left ha
    have ha' : isAggD i.d = false := by simpa [TI.isAgg] using ha
    have hlt : off < as.size := by omega
    refine ⟨as[off], by simp [part, run_isAgg hu, ha', hlt], ?_⟩
    unfold ofCells
    rw [if_neg ha, hsz]
    have := hx off (by omega)
    have e : ((cs.drop off).take 1).headD .any = cs[off]'(by omega) := by
      rw [List.drop_eq_getElem_cons (by omega)]; rfl
    rw [e]
    simpa [Array.getD, hlt] using this

theorem field_agg {t : TypeId} {i j : TI} {k off : Nat} {tf : TypeId} (hE : Wf G E) (hi : i.ok P t) (hf : fieldOf i k = some (off, tf)) (hj : j.ok P tf) {cs : List AVal} {x : Value}
    (hx : R E (.agg cs) x) (hl : off + j.size ≤ cs.length) : ROk G E E.S (ofCells j ((cs.drop off).take j.size)) ((Instr.field t x k).run P E.w) := by
  cases hx with
  | agg _ as h1 h2 =>
    obtain ⟨y, e1, e2⟩ := run_part (P := P) hj h1 h2 off hl E.w
    obtain ⟨hu, _, _, _, _, _, _, _, _, _, _, _⟩ := hi
    refine .pure (x := y) hE ?_ e2
    unfold fieldOf at hf
    split at hf
    · next fs hd =>
      obtain ⟨f, hfk, hff⟩ := Option.map_eq_some_iff.1 hf
      simp only [Prod.mk.injEq] at hff
      obtain ⟨rfl, rfl⟩ := hff
      rw [hd] at hu
      simp [Instr.field, run_underlying hu, hfk, asAgg, e1]
    · cases hf

theorem index_agg {t e : TypeId} {m : Nat} {i : TI} (hE : Wf G E) (hu : P.underlying t = some (.array m e)) (hi : i.ok P e) {cs : List AVal} {x : Value}
    (hx : R E (.agg cs) x) {k : IntKind} {n : Int} (h0 : 0 ≤ n) (hn : n.toNat < m) (hl : n.toNat * i.size + i.size ≤ cs.length) :
    ROk G E E.S (ofCells i ((cs.drop (n.toNat * i.size)).take i.size)) ((Instr.index t x (.int k n)).run P E.w) := by
  cases hx with
  | agg _ as h1 h2 =>
    obtain ⟨y, e1, e2⟩ := run_part (P := P) hi h1 h2 (n.toNat * i.size) hl E.w
    obtain ⟨_, inf, z, hinf, hs, _, _, _, _, _, _, _⟩ := hi
    have hlt : n < (m : Int) := by omega
    refine .pure (x := y) hE ?_ e2
    simp [Instr.index, asIntOf, run_underlying hu, h0, hlt, run_sizeOf hinf, hs, e1]

theorem index_str {t : TypeId} (hE : Wf G E) (hu : P.underlying t = some .string) {s : List UInt8} {x : Value}
    (hx : R E (.str s) x) {k : IntKind} {n : Int} (h0 : 0 ≤ n) (hn : n.toNat < s.length) :
    ROk G E E.S (.int .u8 ((s.getD n.toNat 0).toNat : Int)) ((Instr.index t x (.int k n)).run P E.w) := by
  cases hx with
  | str b _ h =>
    subst h
    have hlt : n.toNat < b.size := by simpa using hn
    have hrun : (Instr.index t (.string b) (.int k n)).run P E.w = .ok (.int .u8 (b[n.toNat].toNat : Int)) E.w := by
      simp [Instr.index, asIntOf, run_underlying hu, h0, hlt]
    refine .pure hE hrun ?_
    have : (b.data.toList.getD n.toNat 0) = b[n.toNat] := by
      have h2 : n.toNat < b.data.size := hlt
      simp only [List.getD, Array.getElem?_toList, Array.getElem?_eq_getElem h2, Option.getD_some]
      rfl
    rw [this]
    exact .int _ _
end
end Go.Am
