/- The abstract layer: functions that leave all as it was. -/
import Derived.Test.YtodiaabcaahnjaaGreatDoorAmCode
set_option linter.unusedVariables false
set_option linter.unusedSimpArgs false
namespace Go.Am
open Go
noncomputable section
open Classical
inductive Closed : AVal → Prop
  | any : Closed .any
  | raw (v : Value) : Closed (.raw v)
  | int (k : IntKind) (n : Int) : Closed (.int k n)
  | bool (b : Bool) : Closed (.bool b)
  | str (s : List UInt8) : Closed (.str s)
  | nilp : Closed .nilp
  | cptr (cs : List AVal) (h : ∀ c ∈ cs, Closed c) : Closed (.cptr cs)
  | sl (sz : Nat) (nl : Bool) (xs : List AVal) (tg : Tag) (ht : ∀ g, tg ≠ .grow g ∧ tg ≠ .own g ∧ tg ≠ .lit) (h : ∀ x ∈ xs, Closed x) : Closed (.sl sz nl xs tg)
  | nilmap : Closed .nilmap
  | fn (f : Fn) (as bs : List AVal) (h1 : ∀ x ∈ as, Closed x) (h2 : ∀ x ∈ bs, Closed x) : Closed (.fn f as bs)
  | nilfn : Closed .nilfn
  | ifc (t : TypeId) (v : AVal) (h : Closed v) : Closed (.ifc t v)
  | nilifc : Closed .nilifc
  | agg (cs : List AVal) (h : ∀ c ∈ cs, Closed c) : Closed (.agg cs)
  | tup (cs : List AVal) (h : ∀ c ∈ cs, Closed c) : Closed (.tup cs)
theorem Closed.cells {v : AVal} (h : Closed v) : ∀ c ∈ v.cells, Closed c := by
  cases h with
  | agg cs h => exact h
  | _ =>
    intro c hc
    simp only [AVal.cells, List.mem_singleton] at hc
    subst hc
    first
      | exact .any | exact .raw _ | exact .int _ _ | exact .bool _ | exact .str _ | exact .nilp | exact .cptr _ ‹_› | exact .sl _ _ _ _ ‹_› ‹_› | exact .nilmap
      | exact .fn _ _ _ ‹_› ‹_› | exact .nilfn | exact .ifc _ _ ‹_› | exact .nilifc | exact .tup _ ‹_›
@[simp] theorem closed_any : Closed .any ↔ True := ⟨fun _ => trivial, fun _ => .any⟩
@[simp] theorem closed_int (k : IntKind) (n : Int) : Closed (.int k n) ↔ True := ⟨fun _ => trivial, fun _ => .int k n⟩
@[simp] theorem closed_bool (b : Bool) : Closed (.bool b) ↔ True := ⟨fun _ => trivial, fun _ => .bool b⟩
@[simp] theorem closed_str (s : List UInt8) : Closed (.str s) ↔ True := ⟨fun _ => trivial, fun _ => .str s⟩
@[simp] theorem closed_nilp : Closed .nilp ↔ True := ⟨fun _ => trivial, fun _ => .nilp⟩
@[simp] theorem closed_nilfn : Closed .nilfn ↔ True := ⟨fun _ => trivial, fun _ => .nilfn⟩
@[simp] theorem closed_nilifc : Closed .nilifc ↔ True := ⟨fun _ => trivial, fun _ => .nilifc⟩
@[simp] theorem closed_nilmap : Closed .nilmap ↔ True := ⟨fun _ => trivial, fun _ => .nilmap⟩
@[simp] theorem closed_sl_any (sz : Nat) (nl : Bool) (xs : List AVal) : Closed (.sl sz nl xs .any) ↔ ∀ x ∈ xs, Closed x :=
  ⟨fun h => by cases h; assumption, fun h => .sl _ _ _ _ (by intro g; exact ⟨nofun, nofun, nofun⟩) h⟩
@[simp] theorem closed_sl_full (sz : Nat) (nl : Bool) (xs : List AVal) : Closed (.sl sz nl xs .full) ↔ ∀ x ∈ xs, Closed x :=
  ⟨fun h => by cases h; assumption, fun h => .sl _ _ _ _ (by intro g; exact ⟨nofun, nofun, nofun⟩) h⟩
@[simp] theorem closed_agg (cs : List AVal) : Closed (.agg cs) ↔ ∀ x ∈ cs, Closed x := ⟨fun h => by cases h; assumption, fun h => .agg _ h⟩
@[simp] theorem closed_tup (cs : List AVal) : Closed (.tup cs) ↔ ∀ x ∈ cs, Closed x := ⟨fun h => by cases h; assumption, fun h => .tup _ h⟩
@[simp] theorem closed_cptr (cs : List AVal) : Closed (.cptr cs) ↔ ∀ x ∈ cs, Closed x := ⟨fun h => by cases h; assumption, fun h => .cptr _ h⟩
@[simp] theorem closed_ifc (t : TypeId) (v : AVal) : Closed (.ifc t v) ↔ Closed v := ⟨fun h => by cases h; assumption, fun h => .ifc _ _ h⟩
@[simp] theorem closed_fn (f : Fn) (as bs : List AVal) : Closed (.fn f as bs) ↔ (∀ x ∈ as, Closed x) ∧ ∀ x ∈ bs, Closed x := ⟨fun h => by cases h; exact ⟨‹_›, ‹_›⟩, fun h => .fn _ _ _ h.1 h.2⟩
@[simp] theorem closed_bv (b : UInt8) : Closed (bv b) ↔ True := closed_int _ _
@[simp] theorem closed_bl (l : List UInt8) : (∀ x ∈ bl l, Closed x) ↔ True := ⟨fun _ => trivial, fun _ x hx => by obtain ⟨b, _, rfl⟩ := List.mem_map.1 hx; exact .int _ _⟩
structure Sees (E E' : Env) : Prop where
  cell : ∀ b o, E.Im b o → E'.Im b o ∧ E'.w.cell? ⟨b, o, none⟩ = E.w.cell? ⟨b, o, none⟩
theorem Sees.holds {E E' : Env} (h : Sees E E') {ad : Addr} {j : Nat} {v : Value} (k : E.holds ad j v) : E'.holds ad j v := by
  obtain ⟨h1, h2, h3, h4⟩ := k
  obtain ⟨c1, c2⟩ := h.cell _ _ h3
  rw [add_form ad j h1] at h2
  refine ⟨h1, ?_, c1, h4⟩
  rw [add_form ad j h1, c2, h2]
theorem Closed.move {E E' : Env} (h : Sees E E') {v : AVal} {x : Value} (k : R E v x) (hc : Closed v) : R E' v x := by
  induction k with
  | any x => exact .any x
  | raw x => exact .raw x
  | int k n => exact .int k n
  | bool b => exact .bool b
  | str s l h => exact .str s l h
  | nilp => exact .nilp
  | ptr => cases hc
  | cptr cs ad f hf hr ih =>
    cases hc with
    | cptr _ hc => exact .cptr cs ad f (fun j hj => h.holds (hf j hj)) fun j hj => ih j hj (hc _ (List.getElem_mem hj))
  | slnil sz tg ht =>
    cases hc with
    | sl _ _ _ _ hg _ =>
      refine .slnil sz tg ?_
      cases tg with
      | any => trivial
      | full => exact ht
      | lit => exact absurd rfl (hg 0).2.2
      | grow g => exact absurd rfl (hg g).1
      | own g => exact absurd rfl (hg g).2.1
  | sl sz xs tg ad n c f hn hcc hm hf hsz hr ht ih =>
    cases hc with
    | sl _ _ _ _ hg hx =>
      refine .sl sz xs tg ad n c f hn hcc hm (fun j hj => h.holds (hf j hj)) hsz (fun k hk j hj => ih k hk j hj ((hx _ (List.getElem_mem hk)).cells _ (List.getElem_mem hj))) ?_
      cases tg with
      | any => trivial
      | full => exact ht
      | lit => exact absurd rfl (hg 0).2.2
      | grow g => exact absurd rfl (hg g).1
      | own g => exact absurd rfl (hg g).2.1
  | view => cases hc
  | vrow => cases hc
  | yld => cases hc
  | room => cases hc
  | nilmap => exact .nilmap
  | map => cases hc
  | fn f xs ys as bs h1 h2 hx hy ihx ihy =>
    cases hc with
    | fn _ _ _ c1 c2 => exact .fn f xs ys as bs h1 h2 (fun j hj => ihx j hj (c1 _ (List.getElem_mem hj))) fun j hj => ihy j hj (c2 _ (List.getElem_mem hj))
  | nilfn => exact .nilfn
  | ifc t v x hx ih =>
    cases hc with
    | ifc _ _ c => exact .ifc t v x (ih c)
  | nilifc => exact .nilifc
  | agg cs as h1 hx ih =>
    cases hc with
    | agg _ c => exact .agg cs as h1 fun j hj => ih j hj (c _ (List.getElem_mem hj))
  | tup cs as h1 hx ih =>
    cases hc with
    | tup _ c => exact .tup cs as h1 fun j hj => ih j hj (c _ (List.getElem_mem hj))
def era : AVal → AVal
  | .sl sz nl xs _ => .sl sz nl xs .any
  | .tup vs => .tup (vs.map fun v => match v with | .sl sz nl xs _ => .sl sz nl xs .any | v => v)
  | v => v
theorem R.sl_any {E : Env} {sz : Nat} {nl : Bool} {xs : List AVal} {tg : Tag} {x : Value} (h : R E (.sl sz nl xs tg) x) : R E (.sl sz nl xs .any) x := by
  cases h with
  | slnil => exact .slnil _ _ trivial
  | sl _ _ _ ad n c f hn hc hm hf hcs hr ht => exact .sl _ _ _ ad n c f hn hc hm hf hcs hr trivial
theorem R.era {E : Env} {v : AVal} {x : Value} (h : R E v x) : R E (era v) x := by
  cases v <;> try (exact h)
  case sl sz nl xs tg => exact h.sl_any
  case tup vs =>
    cases h with
    | tup _ as h1 hx =>
      refine .tup _ as (by simp [h1]) fun j hj => ?_
      simp only [List.length_map] at hj
      have := hx j hj
      simp only [List.getElem_map]
      split
      · next he => rw [he] at this; exact this.sl_any
      · exact this
def look1 (T : St) : AVal → AVal
  | .view b off n _ => match T[b]? with
    | some (.cells bs _) => .sl 1 false ((bs.drop off).take n) .any
    | _ => .any
  | .vrow b off n => match T[b]? with
    | some (.row bs _) => .sl 1 false ((bs.drop off).take n) .any
    | _ => .any
  | .ptr b off => match T[b]? with
    | some (.cells bs _) => .cptr (bs.drop off)
    | _ => .any
  | .sl sz nl xs _ => .sl sz nl xs .any
  | v => v
def look1Ok (T : St) : AVal → Prop
  | .view b off n cap => cap ≤ maxLen ∧ ∃ bs t, T[b]? = some (ABox.cells bs t) ∧ off + n ≤ bs.length ∧ ∀ x ∈ bs, x.one = true
  | .vrow b off n => ∃ bs t, T[b]? = some (ABox.row bs t) ∧ off + n ≤ bs.length ∧ ∀ x ∈ bs, x.one = true
  | _ => True
def look (T : St) : AVal → AVal
  | .tup vs => .tup (vs.map (look1 T))
  | v => look1 T v
def lookOk (T : St) : AVal → Prop
  | .tup vs => ∀ v ∈ vs, look1Ok T v
  | v => look1Ok T v
theorem look1_ok {G : Nat → Option AVal} {E E' : Env} (hE : Wf G E) (hw : E'.w = E.w) (hs : Sees E E') (hb : ∀ i b o : Nat, E.mu[i]? = some (some b) → (∃ x, E.S[i]? = some x) → E'.Im b o)
    {v : AVal} {x : Value} (h : R E v x) (hok : look1Ok E.S v) (hc : Closed (look1 E.S v)) : R E' (look1 E.S v) x := by
  cases v <;> try (exact Closed.move hs h hc)
  case sl sz nl xs tg => exact Closed.move hs h.sl_any hc
  case ptr i off =>
    simp only [look1] at hc ⊢
    split
    · next bs t hS =>
      rw [hS] at hc
      simp only at hc
      cases h with
      | ptr _ _ b hm hbx =>
        obtain ⟨b', arr, h1, h2, h3, h4⟩ := hE.entry i _ hS
        obtain rfl : b' = b := by rw [hm] at h1; injection h1 with h1; injection h1 with h1; exact h1.symm
        refine .cptr _ _ (fun j => arr.getD (off + j) undef) (fun j hj => ?_) (fun j hj => ?_)
        · rw [List.length_drop] at hj
          refine ⟨rfl, ?_, hb i b' _ hm ⟨_, hS⟩, (h4 (off + j) (by omega)).2⟩
          rw [add_form _ _ rfl, hw]
          have : off + j < arr.size := by omega
          simp [World.cell?, h2, Array.getD, this]
        · rw [List.length_drop] at hj
          have := (h4 (off + j) (by omega)).1
          simp only [List.getElem_drop]
          refine Closed.move hs this ?_
          cases hc with
          | cptr _ hc => exact hc _ (by rw [← List.getElem_drop (h := by rw [List.length_drop]; omega)]; exact List.getElem_mem _)
    · exact .any _
  case view i off n cap =>
    simp only [look1] at hc ⊢
    obtain ⟨hcap, bs, t, hS, hl, hone⟩ := hok
    rw [hS] at hc ⊢
    simp only at hc ⊢
    cases h with
    | view _ _ _ _ b hnc hm hbx =>
      obtain ⟨b', arr, h1, h2, h3, h4⟩ := hE.entry i _ hS
      obtain rfl : b' = b := by rw [hm] at h1; injection h1 with h1; injection h1 with h1; exact h1.symm
      have hlen : ((bs.drop off).take n).length = n := by rw [List.length_take, List.length_drop]; omega
      have hel : ∀ k (h : k < ((bs.drop off).take n).length), ((bs.drop off).take n)[k] = bs[off + k]'(by omega) := fun k h => by simp
      have hce : ∀ k (h : k < ((bs.drop off).take n).length), (((bs.drop off).take n)[k]).cells = [((bs.drop off).take n)[k]] := fun k h => by
        refine one_cells ?_
        rw [hel k h]; exact hone _ (List.getElem_mem _)
      refine .sl 1 _ .any _ n cap (fun j => arr.getD (off + j) undef) hlen.symm hnc hcap (fun j hj => ?_) (fun k h => by rw [hce k h]; rfl) (fun k h j hj => ?_) trivial
      · refine ⟨rfl, ?_, hb i b' _ hm ⟨_, hS⟩, (h4 (off + j) (by omega)).2⟩
        rw [add_form _ _ rfl, hw]
        have : off + j < arr.size := by omega
        simp [World.cell?, h2, Array.getD, this]
      · have h0 : j = 0 := by rw [hce k h] at hj; simpa using hj
        subst h0
        have e1 : (((bs.drop off).take n)[k]).cells[0] = bs[off + k]'(by omega) := by
          rw [List.getElem_of_eq (hce k h)]; simp
        rw [e1, Nat.mul_one, Nat.add_zero]
        refine Closed.move hs (h4 (off + k) (by omega)).1 ?_
        cases hc with
        | sl _ _ _ _ _ hx => exact hx _ (by rw [← hel k h]; exact List.getElem_mem _)
  case vrow i off n =>
    simp only [look1] at hc ⊢
    obtain ⟨bs, t, hS, hl, hone⟩ := hok
    rw [hS] at hc ⊢
    simp only at hc ⊢
    cases h with
    | vrow _ _ _ b cap hnc hcap hm hbx =>
      obtain ⟨b', arr, h1, h2, h3, h4⟩ := hE.entry i _ hS
      obtain rfl : b' = b := by rw [hm] at h1; injection h1 with h1; injection h1 with h1; exact h1.symm
      have hlen : ((bs.drop off).take n).length = n := by rw [List.length_take, List.length_drop]; omega
      have hel : ∀ k (h : k < ((bs.drop off).take n).length), ((bs.drop off).take n)[k] = bs[off + k]'(by omega) := fun k h => by simp
      have hce : ∀ k (h : k < ((bs.drop off).take n).length), (((bs.drop off).take n)[k]).cells = [((bs.drop off).take n)[k]] := fun k h => by
        refine one_cells ?_
        rw [hel k h]; exact hone _ (List.getElem_mem _)
      refine .sl 1 _ .any _ n cap (fun j => arr.getD (off + j) undef) hlen.symm hnc hcap (fun j hj => ?_) (fun k h => by rw [hce k h]; rfl) (fun k h j hj => ?_) trivial
      · refine ⟨rfl, ?_, hb i b' _ hm ⟨_, hS⟩, (h4 (off + j) (by omega)).2⟩
        rw [add_form _ _ rfl, hw]
        have : off + j < arr.size := by omega
        simp [World.cell?, h2, Array.getD, this]
      · have h0 : j = 0 := by rw [hce k h] at hj; simpa using hj
        subst h0
        have e1 : (((bs.drop off).take n)[k]).cells[0] = bs[off + k]'(by omega) := by
          rw [List.getElem_of_eq (hce k h)]; simp
        rw [e1, Nat.mul_one, Nat.add_zero]
        refine Closed.move hs (h4 (off + k) (by omega)).1 ?_
        cases hc with
        | sl _ _ _ _ _ hx => exact hx _ (by rw [← hel k h]; exact List.getElem_mem _)
theorem look_ok {G : Nat → Option AVal} {E E' : Env} (hE : Wf G E) (hw : E'.w = E.w) (hs : Sees E E') (hb : ∀ i b o : Nat, E.mu[i]? = some (some b) → (∃ x, E.S[i]? = some x) → E'.Im b o)
    {v : AVal} {x : Value} (h : R E v x) (hok : lookOk E.S v) (hc : Closed (look E.S v)) : R E' (look E.S v) x := by
  by_cases ht : ∃ vs, v = .tup vs
  · obtain ⟨vs, rfl⟩ := ht
    cases h with
    | tup _ as h1 hx =>
      cases hc with
      | tup _ hc =>
        refine .tup _ as (by simp [h1]) fun j hj => ?_
        simp only [List.length_map] at hj
        simp only [List.getElem_map]
        exact look1_ok hE hw hs hb (hx j hj) (hok _ (List.getElem_mem hj)) (hc _ (List.mem_map.2 ⟨_, List.getElem_mem hj, rfl⟩))
  · have e : look E.S v = look1 E.S v := by cases v <;> first | rfl | exact absurd ⟨_, rfl⟩ ht
    have e2 : lookOk E.S v = look1Ok E.S v := by cases v <;> first | rfl | exact absurd ⟨_, rfl⟩ ht
    rw [e] at hc ⊢
    rw [e2] at hok
    exact look1_ok hE hw hs hb h hok hc
inductive Plain : AVal → Prop
  | int (k : IntKind) (n : Int) : Plain (.int k n)
  | bool (b : Bool) : Plain (.bool b)
  | str (s : List UInt8) : Plain (.str s)
  | nilp : Plain .nilp
  | nilmap : Plain .nilmap
  | nilfn : Plain .nilfn
  | nilifc : Plain .nilifc
  | raw (v : Value) : Plain (.raw v)
  | slnil (sz : Nat) : Plain (.sl sz true [] .any)
  | agg (cs : List AVal) (h : ∀ c ∈ cs, Plain c) : Plain (.agg cs)
  | tup (cs : List AVal) (h : ∀ c ∈ cs, Plain c) : Plain (.tup cs)
theorem Plain.move {E E' : Env} {v : AVal} {x : Value} (k : R E v x) (hp : Plain v) : R E' v x := by
  induction k with
  | any x => exact .any x
  | raw x => exact .raw x
  | int k n => exact .int k n
  | bool b => exact .bool b
  | str s l h => exact .str s l h
  | nilp => exact .nilp
  | nilmap => exact .nilmap
  | nilfn => exact .nilfn
  | nilifc => exact .nilifc
  | slnil sz tg ht => cases hp; exact .slnil _ _ trivial
  | sl => cases hp
  | agg cs as h1 hx ih =>
    cases hp with
    | agg _ hp => exact .agg cs as h1 fun j hj => ih j hj (hp _ (List.getElem_mem hj))
  | tup cs as h1 hx ih =>
    cases hp with
    | tup _ hp => exact .tup cs as h1 fun j hj => ih j hj (hp _ (List.getElem_mem hj))
  | _ => cases hp
@[simp] theorem plain_int (k : IntKind) (n : Int) : Plain (.int k n) ↔ True := ⟨fun _ => trivial, fun _ => .int k n⟩
@[simp] theorem plain_bool (b : Bool) : Plain (.bool b) ↔ True := ⟨fun _ => trivial, fun _ => .bool b⟩
@[simp] theorem plain_str (s : List UInt8) : Plain (.str s) ↔ True := ⟨fun _ => trivial, fun _ => .str s⟩
@[simp] theorem plain_nilp : Plain .nilp ↔ True := ⟨fun _ => trivial, fun _ => .nilp⟩
@[simp] theorem plain_nilifc : Plain .nilifc ↔ True := ⟨fun _ => trivial, fun _ => .nilifc⟩
@[simp] theorem plain_agg (cs : List AVal) : Plain (.agg cs) ↔ ∀ x ∈ cs, Plain x := ⟨fun h => by cases h; assumption, fun h => .agg _ h⟩
@[simp] theorem plain_tup (cs : List AVal) : Plain (.tup cs) ↔ ∀ x ∈ cs, Plain x := ⟨fun h => by cases h; assumption, fun h => .tup _ h⟩
@[simp] theorem plain_bl (l : List UInt8) : (∀ x ∈ bl l, Plain x) ↔ True := ⟨fun _ => trivial, fun _ x hx => by obtain ⟨b, _, rfl⟩ := List.mem_map.1 hx; exact .int _ _⟩
def env0 (w : World) (im0 : Nat → Nat → Prop) : Env := ⟨w, [], [], w.heap.size, im0, w.heap.size⟩
structure APure (C : Cx) (f : FuncId) (args : List AVal) (r : AVal) : Prop where
  callable : ∃ fn, C.P.funcs[f]? = some fn ∧ fn.body.isSome = true ∧ (fn.name == "runtime.NumGoroutine") = false
  ok : ∀ (w : World) (im0 : Nat → Nat → Prop) (vs : Array Value), Wf C.G (env0 w im0) → vs.size = args.length → (∀ j (h : j < args.length), R (env0 w im0) args[j] (vs.getD j undef)) →
    Calls C.P f vs w fun e w' => ∃ v, e = .returned v ∧ w.grownBy w' none ∧ R ⟨w', [], [], w.heap.size, im0, w.heap.size⟩ r v
theorem Ext.grown {E E' : Env} (h : Ext E E') (hmu : E.mu = []) (hb : E.w.heap.size ≤ E.base) : E.w.grownBy E'.w none :=
  ⟨h.os, h.tape, h.output, h.size, fun k hk _ => (h.free k hk (fun i => by rw [hmu]; simp)).2.old (Nat.lt_of_lt_of_le hk hb)⟩
theorem apure_intro {C : Cx} {N : Nat} (hC : C.Ok) {f : FuncId} {l : LC} {rs : List ResultVar} (hf : FnOk C f l N rs) (p : FuncId → Bool) (q : Nat → Option UL) (hb : BodyOk C f p q) {args : List AVal} (hlen : args.length ≤ N) {r : AVal}
    (h : aC (C.wp p q) N l (fun e fr T => isRet e ∧ match aRes C fr T rs with | some (sd, v) => sd ∧ era v = r ∧ Closed r | none => False) (frame0 args) []) : APure C f args r := by
  refine ⟨hf.callable, fun w im0 vs hE hvs hr => ?_⟩
  refine (calls_body hC hf p q hb hlen (S := []) (K := fun v _ => era v = r ∧ Closed r) h (env0 w im0) vs hE rfl hvs hr).mono ?_
  rintro e w' ⟨E', x, v, h1, rfl, h3, h4, h5, h6, h7⟩
  refine ⟨x, h1, h4.grown rfl (Nat.le_refl _), ?_⟩
  have hs : Sees E' ⟨E'.w, [], [], w.heap.size, im0, w.heap.size⟩ := by
    refine ⟨fun b o hi => ⟨⟨hi.1, ?_⟩, rfl⟩⟩
    have hbase : E'.base = w.heap.size := h4.base
    have him : E'.im0 = im0 := h4.im0
    have h2 := hi.2
    rw [hbase, him] at h2
    rcases h2 with h2 | h2 | h2
    · exact .inl h2
    · exact .inr (.inl ⟨h2.1, fun i => by simp⟩)
    · exact .inr (.inl ⟨h2.1, fun i => by simp⟩)
  have := h5.era
  rw [h6] at this
  exact h7.move hs this
theorem apure_awp {C : Cx} {N : Nat} (hC : C.Ok) {f : FuncId} {l : LC} {rs : List ResultVar} (hf : FnOk C f l N rs) (p : FuncId → Bool) (q : Nat → Option UL) (hb : BodyOk C f p q) {args : List AVal} (hlen : args.length ≤ N) {r : AVal}
    (h : ∀ c, lite c = l → codeOk (C.wp p q) N c = true → AWp (C.wp p q) N c (fun e fr T => isRet e ∧ match aRes C fr T rs with | some (sd, v) => sd ∧ lookOk T v ∧ look T v = r ∧ Closed r | none => False) (frame0 args) []) : APure C f args r := by
  refine ⟨hf.callable, fun w im0 vs hE hvs hr => ?_⟩
  refine (calls_awp hC hf p q hb hlen (S := []) (K := fun v T => lookOk T v ∧ look T v = r ∧ Closed r) h (env0 w im0) vs hE rfl hvs hr).mono ?_
  rintro e w' ⟨E', x, v, h1, rfl, h3, h4, h5, h6, h7, h8⟩
  refine ⟨x, h1, h4.grown rfl (Nat.le_refl _), ?_⟩
  have hbase : E'.base = w.heap.size := h4.base
  have hs : Sees E' ⟨E'.w, [], [], w.heap.size, im0, w.heap.size⟩ := by
    refine ⟨fun b o hi => ⟨⟨hi.1, ?_⟩, rfl⟩⟩
    have him : E'.im0 = im0 := h4.im0
    have h2 := hi.2
    rw [hbase, him] at h2
    rcases h2 with h2 | h2 | h2
    · exact .inl h2
    · exact .inr (.inl ⟨h2.1, fun i => by simp⟩)
    · exact .inr (.inl ⟨h2.1, fun i => by simp⟩)
  rw [← h7] at h8 ⊢
  refine look_ok (E' := ⟨E'.w, [], [], w.heap.size, im0, w.heap.size⟩) h3 rfl hs (fun i b o hm _ => ⟨h3.lt i b hm, .inr (.inl ⟨?_, fun j => by simp⟩)⟩) h5 h6 h8
  rcases Nat.lt_or_ge b w.heap.size with hlt | hge
  · exact absurd hm ((h4.free b hlt (fun j => by simp [env0])).1 i)
  · exact hge
theorem R.move0 {E E' : Env} (h : Sees E E') (hS : E.S = []) (hl : ∀ b, E.base ≤ b → b < E.w.heap.size → E.free b → E'.base ≤ b ∧ b < E'.w.heap.size ∧ E'.free b) {v : AVal} {x : Value} (k : R E v x) : R E' v x := by
  have tg : ∀ {sz : Nat} {t : Tag} {a : Option Addr} {n c : Nat}, E.tagOk sz t a n c → E'.tagOk sz t a n c := by
    intro sz t a n c ht
    cases t with
    | any => trivial
    | full => exact ht
    | lit => exact ⟨ht.1, fun ad ha => by obtain ⟨h1, h2, h3, h4⟩ := ht.2 ad ha; exact ⟨h1, hl _ h2 h3 h4⟩⟩
    | grow g =>
      obtain ⟨m, t, hs, _⟩ := ht
      rw [hS] at hs
      simp at hs
    | own g =>
      obtain ⟨m, t, hs, _⟩ := ht
      rw [hS] at hs
      simp at hs
  induction k with
  | any x => exact .any x
  | raw x => exact .raw x
  | int k n => exact .int k n
  | bool b => exact .bool b
  | str s l h => exact .str s l h
  | nilp => exact .nilp
  | ptr i off b hm hb => obtain ⟨x, hx, _⟩ := hb; rw [hS] at hx; simp at hx
  | cptr cs ad f hf hr ih => exact .cptr cs ad f (fun j hj => h.holds (hf j hj)) ih
  | slnil sz t ht => exact .slnil sz t (tg ht)
  | sl sz xs t ad n c f hn hcc hm hf hsz hr ht ih => exact .sl sz xs t ad n c f hn hcc hm (fun j hj => h.holds (hf j hj)) hsz ih (tg ht)
  | view i off n cap b hnc hm hb => obtain ⟨x, hx, _⟩ := hb; rw [hS] at hx; simp at hx
  | vrow i off n b c hnc hcm hm hb => obtain ⟨x, hx, _⟩ := hb; rw [hS] at hx; simp at hx
  | yld i b hm hb => obtain ⟨x, hx, _⟩ := hb; rw [hS] at hx; simp at hx
  | room g sz t n b c hn hm hr => obtain ⟨m, hs, _⟩ := hr; rw [hS] at hs; simp at hs
  | nilmap => exact .nilmap
  | map i b hm hb => obtain ⟨x, hx, _⟩ := hb; rw [hS] at hx; simp at hx
  | fn f xs ys as bs h1 h2 hx hy ihx ihy => exact .fn f xs ys as bs h1 h2 ihx ihy
  | nilfn => exact .nilfn
  | ifc t v x hx ih => exact .ifc t v x ih
  | nilifc => exact .nilifc
  | agg cs as h1 hx ih => exact .agg cs as h1 ih
  | tup cs as h1 hx ih => exact .tup cs as h1 ih
def GClosed (C : Cx) : Prop := ∀ g v, C.G g = some v → Closed v
theorem APure.call {C : Cx} (hG : GClosed C) {f : FuncId} {args as : List AVal} {r : AVal} (h : APure C f args r) (he : args = as.map era) (hc : ∀ a ∈ args, Closed a) (S : St) : ACall C f as S r S := by
  refine ⟨h.callable, fun E vs hE hS hvs hr => ?_⟩
  have hsee : Sees E (env0 E.w E.Im) := ⟨fun b o hi => ⟨⟨hi.1, .inl ⟨hi.1, hi⟩⟩, rfl⟩⟩
  have hE0 : Wf C.G (env0 E.w E.Im) :=
    ⟨rfl, fun i j b h => by simp [env0] at h, fun i b h => by simp [env0] at h, Nat.le_refl _, fun b o _ _ i => by simp [env0], fun i x h => by simp [env0] at h,
      fun g v hg => ⟨(hG g v hg).move hsee (hE.glob g v hg).r, fun i => by simp [env0], (hE.glob g v hg).obj⟩⟩
  refine (h.ok E.w E.Im vs hE0 (by rw [hvs, he]; simp) (fun j hj => ?_)).mono ?_
  · have hj' : j < as.length := by rw [he] at hj; simpa using hj
    have e : args[j] = era as[j] := by simp [he]
    have := (hr j hj').era
    rw [← e] at this
    exact (hc _ (List.getElem_mem hj)).move hsee this
  · rintro e w' ⟨v, h1, h2, h3⟩
    obtain ⟨k1, k2⟩ := env_grown hE h2
    refine ⟨_, v, h1, rfl, k2, k1, hS, ?_⟩
    have hsee2 : Sees ⟨w', [], [], E.w.heap.size, E.Im, E.w.heap.size⟩ { E with w := w' } := ⟨fun b o hi => ⟨⟨hi.1, ?_⟩, rfl⟩⟩
    · refine R.move0 hsee2 rfl (fun b h1 h2 _ => ⟨Nat.le_trans hE.base h1, h2, fun i hi => ?_⟩) h3
      have h1 : E.w.heap.size ≤ b := h1
      have := hE.lt i b hi
      omega
    rcases hi.2 with ⟨_, hi2⟩ | ⟨hi1, _⟩ | ⟨_, i, _, _, _, hm, _⟩
    · exact (Env.Im.ext k1 hi2 hE.im).1.2
    · have hsz : E.w.heap.size ≤ b := hi1
      refine .inr (.inl ⟨Nat.le_trans hE.base hsz, fun i hi => ?_⟩)
      have := hE.lt i b hi
      omega
    · simp at hm
theorem APure.callX {C : Cx} (hG : GClosed C) {f : FuncId} {args as : List AVal} {r : AVal} (h : APure C f args r) (he : args = as.map era) (hc : ∀ a ∈ args, Closed a) (S : St) : CallX C f as S r S :=
  ⟨.inl (h.call hG he hc S), fun _ => ⟨rfl, fun U => .inl (h.call hG he hc U)⟩⟩
theorem APure.lend {C : Cx} (hG : GClosed C) {f : FuncId} {args as : List AVal} {r : AVal} (h : APure C f args r) {S : St} (he : args = as.map (look1 S)) (ho : ∀ a ∈ as, look1Ok S a) (hc : ∀ a ∈ args, Closed a) (hp : Plain r) : ACall C f as S r S := by
  refine ⟨h.callable, fun E vs hE hS hvs hr => ?_⟩
  subst hS
  have hsee : Sees E (env0 E.w fun _ _ => True) := ⟨fun b o hi => ⟨⟨hi.1, .inl ⟨hi.1, trivial⟩⟩, rfl⟩⟩
  have hE0 : Wf C.G (env0 E.w fun _ _ => True) :=
    ⟨rfl, fun i j b h => by simp [env0] at h, fun i b h => by simp [env0] at h, Nat.le_refl _, fun b o _ _ i => by simp [env0], fun i x h => by simp [env0] at h,
      fun g v hg => ⟨(hG g v hg).move hsee (hE.glob g v hg).r, fun i => by simp [env0], (hE.glob g v hg).obj⟩⟩
  refine (h.ok E.w (fun _ _ => True) vs hE0 (by rw [hvs, he]; simp) (fun j hj => ?_)).mono ?_
  · have hj' : j < as.length := by rw [he] at hj; simpa using hj
    have e : args[j] = look1 E.S as[j] := by simp [he]
    have hcj := hc _ (List.getElem_mem hj)
    rw [e] at hcj ⊢
    exact look1_ok (E' := env0 E.w fun _ _ => True) hE rfl hsee (fun i b o hm _ => ⟨hE.lt i b hm, .inl ⟨hE.lt i b hm, trivial⟩⟩) (hr j hj') (ho _ (List.getElem_mem hj')) hcj
  · rintro e w' ⟨v, h1, h2, h3⟩
    obtain ⟨k1, k2⟩ := env_grown hE h2
    exact ⟨_, v, h1, rfl, k2, k1, rfl, hp.move h3⟩
end
end Go.Am
