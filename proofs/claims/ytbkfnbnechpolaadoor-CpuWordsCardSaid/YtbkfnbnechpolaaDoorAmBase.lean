/- The abstract layer, second part: frames, types, results of one operation, and what an environment becomes when a box is written, made, or a row grows. -/
import Derived.Test.YtbkfnbnechpolaaDoorAmCore
set_option linter.unusedVariables false
set_option linter.unusedSimpArgs false
namespace Go.Am
open Go

def Fr.put (f : Fr) (d : Option Nat) (v : AVal) : Fr :=
  match d with
  | some k => (k, v) :: f
  | none => f

def markOf (r : Nat) : Deferred := { target := .collected r, args := #[] }

/-- The marks of ranges over functions that an activation bears: blocks of its own, empty. -/
def Marks (E : Env) (ds : List Deferred) : Prop :=
  E.act ≤ E.w.heap.size ∧ ∃ rs : List Nat, ds = rs.map markOf ∧ rs.Nodup ∧ ∀ r ∈ rs, E.act ≤ r ∧ E.free r ∧ E.w.heap[r]? = some (.deferred (some []))

theorem Marks.nil {E : Env} (h : E.act ≤ E.w.heap.size) : Marks E [] := ⟨h, [], rfl, List.nodup_nil, fun r h => by simp at h⟩

theorem heap_lt {w : World} {b : Nat} {o : Obj} (h : w.heap[b]? = some o) : b < w.heap.size := (Array.getElem?_eq_some_iff.1 h).1

theorem Marks.ext {E E' : Env} {ds : List Deferred} (h : Ext E E') (k : Marks E ds) : Marks E' ds := by
  obtain ⟨h0, rs, h1, h2, h3⟩ := k
  refine ⟨by rw [h.act]; exact Nat.le_trans h0 h.size, rs, h1, h2, fun r hr => ?_⟩
  obtain ⟨a, b, c⟩ := h3 r hr
  obtain ⟨f, e⟩ := h.free r (heap_lt c) b
  exact ⟨by rw [h.act]; exact a, f, e.trans c⟩

structure RF (E : Env) (N : Nat) (f : Nat → AVal) (a : Act) : Prop where
  size : a.tmps.size = N
  df : Marks E a.defers
  slot : ∀ t, R E (f t) (a.tmps.getD t undef)

theorem RF.ext {G : Nat → Option AVal} {E E' : Env} {N : Nat} {f : Nat → AVal} {a : Act} (hE : Wf G E) (h : Ext E E') (k : RF E N f a) : RF E' N f a :=
  ⟨k.size, k.df.ext h, fun t => (k.slot t).ext hE h⟩

def upd (f : Nat → AVal) (d : Option Nat) (v : AVal) : Nat → AVal :=
  match d with
  | some k => fun t => if t = k then v else f t
  | none => f

theorem Fr.get_put (f : Fr) (d : Option Nat) (v : AVal) : (f.put d v).get = upd f.get d v := by
  cases d <;> rfl

theorem RF.put {E : Env} {N : Nat} {f : Nat → AVal} {a : Act} {d : Option Nat} {v : AVal} {x : Value} (h : RF E N f a) (hd : ∀ k, d = some k → k < N) (hv : R E v x) :
    RF E N (upd f d v) (a.put d x) := by
  cases d with
  | none => exact h
  | some k =>
    have hk := hd k rfl
    refine ⟨by simp [Act.put, h.size], h.df, fun t => ?_⟩
    simp only [upd, Act.put]
    by_cases e : t = k
    · subst e
      rw [if_pos rfl]
      have hs : t < a.tmps.size := by rw [h.size]; exact hk
      simpa [Array.getD, hs] using hv
    · rw [if_neg e]
      have hh := h.slot t
      have : (a.tmps.setIfInBounds k x).getD t undef = a.tmps.getD t undef := by
        simp only [Array.getD_eq_getD_getElem?]
        rw [Array.getElem?_setIfInBounds_ne (fun h => e h.symm)]
      rw [this]; exact hh

/-! ### Types -/
structure TI where
  d : TypeDesc
  size : Nat
  bytes : Nat
  zero : List AVal

def isAggD : TypeDesc → Bool
  | .struct _ | .array _ _ => true
  | _ => false

def TI.isAgg (i : TI) : Bool := isAggD i.d

/-- A constant's cell. -/
def ofCell : Value → AVal
  | .int k n => .int k n
  | .bool b => .bool b
  | .string s => .str s.data.toList
  | .pointer none => .nilp
  | .slice none 0 0 => .sl 1 true [] .any
  | .map none => .nilmap
  | .nilFunc => .nilfn
  | .nilIface => .nilifc
  | v => .raw v

theorem R.ofCell (E : Env) (v : Value) : R E (ofCell v) v := by
  unfold Am.ofCell
  split
  · exact .int _ _
  · exact .bool _
  · exact .str _ _ rfl
  · exact .nilp
  · exact .slnil _ _ trivial
  · exact .nilmap
  · exact .nilfn
  · exact .nilifc
  · exact .raw _

def TI.ok (P : Program) (t : TypeId) (i : TI) : Prop :=
  P.underlying t = some i.d ∧ ∃ inf z, P.info? t = some inf ∧ inf.size = i.size ∧ inf.bytes = i.bytes ∧ inf.zero = some z ∧
    z.cells.toList.map Am.ofCell = i.zero ∧ z.cells.toList.length = i.size ∧ (z.cells.toList.all (·.oneCell')) = true ∧
    (match z with | .agg _ => true | _ => false) = i.isAgg ∧ (i.isAgg || i.size == 1) = true

structure TOk (P : Program) (T : TypeId → Option TI) : Prop where
  ok : ∀ (t : TypeId) (i : TI), T t = some i → i.ok P t
  closed : ∀ (t : TypeId) (i : TI) (fs : Array Field), T t = some i → i.d = .struct fs → ∀ f ∈ fs.toList, (T f.type).isSome = true

/-- A value of type i out of its cells. -/
def ofCells (i : TI) (cs : List AVal) : AVal := if i.isAgg then .agg cs else cs.headD .any

theorem run_isAgg {P : Program} {t : TypeId} {d : TypeDesc} (h : P.underlying t = some d) (w : World) : (isAgg t).run P w = .ok (isAggD d) w := by
  unfold isAgg
  rw [Sem.run_bind, run_underlying h w]
  cases d <;> rfl

theorem run_sizeOf {P : Program} {t : TypeId} {inf : TypeInfo} (h : P.info? t = some inf) (w : World) : (sizeOf t).run P w = .ok inf.size w := by
  simp [sizeOf, typeInfo, h]

/-! ### The result of one operation -/
def ROk (G : Nat → Option AVal) (E : Env) (S' : St) (r : AVal) (res : Result Value) : Prop :=
  ∃ E' x, res = .ok x E'.w ∧ Ext E E' ∧ Wf G E' ∧ E'.S = S' ∧ R E' r x

theorem ROk.pure {G : Nat → Option AVal} {E : Env} {r : AVal} {res : Result Value} {x : Value} (hE : Wf G E) (h : res = .ok x E.w) (hr : R E r x) : ROk G E E.S r res :=
  ⟨E, x, h, Ext.refl E, hE, rfl, hr⟩

/-! ### Inversions -/
theorem R.int_inv {E : Env} {k : IntKind} {n : Int} {x : Value} (h : R E (.int k n) x) : x = .int k n := by cases h; rfl
theorem R.bool_inv {E : Env} {b : Bool} {x : Value} (h : R E (.bool b) x) : x = .bool b := by cases h; rfl

/-- Cells of R-related aggregates. -/
theorem R.cells {E : Env} {v : AVal} {x : Value} (h : R E v x) (hv : ∀ y, v ≠ .any ∧ v ≠ .raw y) : x.cells.size = v.cells.length ∧ ∀ j (hj : j < v.cells.length), R E (v.cells[j]) (x.cells.getD j undef) := by
  cases h with
  | any => exact absurd rfl (hv undef).1
  | raw => exact absurd rfl (hv x).2
  | agg cs as h1 hx => exact ⟨h1, hx⟩
  | _ =>
    refine ⟨rfl, fun j hj => ?_⟩
    simp only [AVal.cells, List.length_cons, List.length_nil] at hj
    have : j = 0 := by omega
    subst this
    simp only [AVal.cells, Value.cells, List.getElem_cons_zero]
    first
      | exact .int _ _
      | exact .bool _
      | exact .str _ _ ‹_›
      | exact .nilp
      | exact .ptr _ _ _ ‹_› ‹_›
      | exact .cptr _ _ _ ‹_› ‹_›
      | exact .slnil _ _ ‹_›
      | exact .sl _ _ _ _ _ _ _ ‹_› ‹_› ‹_› ‹_› ‹_› ‹_› ‹_›
      | exact .view _ _ _ _ _ ‹_› ‹_› ‹_›
      | exact .nilmap
      | exact .map _ _ ‹_› ‹_›
      | exact .fn _ _ _ _ _ ‹_› ‹_› ‹_› ‹_›
      | exact .nilfn
      | exact .ifc _ _ _ ‹_›
      | exact .nilifc
      | exact .tup _ _ ‹_› ‹_›
      | exact .yld _ _ ‹_› ‹_›
      | exact .room _ _ _ _ _ _ ‹_› ‹_› ‹_›

/-- One cell: no aggregate, no tuple. -/
def AVal.one : AVal → Bool
  | .any | .raw _ | .agg _ | .tup _ => false
  | _ => true

theorem R.one {E : Env} {v : AVal} {x : Value} (h : R E v x) (hv : v.one = true) : x.oneCell' = true := by
  cases h <;> first | rfl | (simp [AVal.one] at hv)


/-! ### What an environment becomes -/
section
variable {G : Nat → Option AVal} {E : Env}

/-- An entry that nothing has touched. -/
theorem entryOk.keep {E E' : Env} (hE : Wf G E) (h : Ext E E') {i : Nat} {x : ABox} (k : entryOk E i x) (hm : E'.mu[i]? = E.mu[i]?)
    (hb : ∀ b : Nat, E.mu[i]? = some (some b) → E'.w.heap[b]? = E.w.heap[b]?) : entryOk E' i x := by
  have hmp : ∀ es c, mpOk E i es c → mpOk E' i es c := by
    intro es c ⟨b, ms, h1, h2, h3, h4⟩
    exact ⟨b, ms, hm.trans h1, (hb b h1).trans h2, h3, fun j hj => ⟨(h4 j hj).1.ext hE h, (h4 j hj).2.1.ext hE h, (h4 j hj).2.2⟩⟩
  cases x with
  | cells cs t =>
    obtain ⟨b, arr, h1, h2, h3, h4⟩ := k
    exact ⟨b, arr, hm.trans h1, (hb b h1).trans h2, h3, fun j hj => ⟨(h4 j hj).1.ext hE h, (h4 j hj).2⟩⟩
  | grow n sz t =>
    rcases k with k | ⟨b, arr, h1, h2, h3, h4⟩
    · exact .inl (hm.trans k)
    · exact .inr ⟨b, arr, hm.trans h1, by rw [h.base]; exact h2, (hb b h1).trans h3, h4⟩
  | frz o =>
    cases o with
    | none => trivial
    | some es =>
      obtain ⟨c, es', hx, q⟩ := k
      exact ⟨c, es', hx, hmp es' c q⟩
  | mpx es c =>
    obtain ⟨es', hx, q⟩ := k
    exact ⟨es', hx, hmp es' c q⟩
  | hole => trivial
  | siter s pos =>
    obtain ⟨b, ba, h1, h2, h3⟩ := k
    exact ⟨b, ba, hm.trans h1, (hb b h1).trans h2, h3⟩
  | mp es c =>
    obtain ⟨b, ms, h1, h2, h3, h4⟩ := k
    exact ⟨b, ms, hm.trans h1, (hb b h1).trans h2, h3, fun j hj => ⟨(h4 j hj).1.ext hE h, (h4 j hj).2.1.ext hE h, (h4 j hj).2.2⟩⟩
  | iter m since seen last =>
    obtain ⟨b, h1, h2⟩ := k
    refine ⟨b, hm.trans h1, ?_⟩
    cases m with
    | none => exact (hb b h1).trans h2
    | some q =>
      obtain ⟨c, k1, ⟨x, kx, kg⟩, k3⟩ := h2
      obtain ⟨e, y, hy, hyg⟩ := h.box q x kx kg
      exact ⟨c, e.trans k1, ⟨y, hy, hyg⟩, (hb b h1).trans k3⟩
  | loop fr N ps asg body st pend tag =>
    obtain ⟨b, r, h1, h2, h3, h4, h5, h6, h7, h8, h9⟩ := k
    exact ⟨b, r, hm.trans h1, (hb b h1).trans h2, h3, h4, h5, h6, h7, h8, fun t => (h9 t).ext hE h⟩

theorem Wf.mu_lt (hE : Wf G E) {i b : Nat} (h : E.mu[i]? = some (some b)) : i < E.S.length := by
  rw [← hE.len]
  rcases Nat.lt_or_ge i E.mu.length with hlt | hge
  · exact hlt
  · rw [List.getElem?_eq_none hge] at h; cases h

theorem GL.ext {G : Nat → Option AVal} {E E' : Env} {g : Nat} {v : AVal} (q : GL E g v) (hE : Wf G E) (hx : Ext E E') : GL E' g v := by
  obtain ⟨arr, t, m, k1, k2⟩ := q.obj
  have hlt : g < E.w.heap.size := by
    rcases Nat.lt_or_ge g E.w.heap.size with h | h
    · exact h
    · rw [Array.getElem?_eq_none h] at k1; cases k1
  obtain ⟨f1, f2⟩ := hx.free g hlt q.free
  exact ⟨q.r.ext hE hx, f1, arr, t, m, f2.trans k1, k2⟩

/-- New blocks that nobody writes, and draws. -/
theorem env_grown (hE : Wf G E) {w' : World} (hg : E.w.grownBy w' none) : Ext E { E with w := w' } ∧ Wf G { E with w := w' } := by
  have hblk : ∀ b, b < E.w.heap.size → w'.heap[b]? = E.w.heap[b]? := fun b hb => hg.block b hb (by simp)
  have hx : Ext E { E with w := w' } :=
    ⟨rfl, rfl, rfl, hg.size, hg.os, hg.tape, hg.output, Nat.le_refl _, fun b hb hf => ⟨hf, hblk b hb⟩, fun i x h hx => ⟨rfl, x, h, hx⟩,
      fun i n sz t h => ⟨n, h, Nat.le_refl _, fun _ => ⟨rfl, fun b hb => hblk b (hE.lt i b hb)⟩, fun b hb => ⟨fun o _ => cell_same (hblk b (hE.lt i b hb)) _ _, .inl hb⟩⟩, fun i b _ h hm => ⟨h, hblk b (hE.lt i b hm)⟩⟩
  refine ⟨hx, hE.len, hE.inj, fun i b h => Nat.lt_of_lt_of_le (hE.lt i b h) hg.size, Nat.le_trans hE.base hg.size, hE.im, fun i x h => ?_, fun g v h => (hE.glob g v h).ext hE hx⟩
  exact (hE.entry i x h).keep hE hx rfl fun b hb => hblk b (hE.lt i b hb)

/-- A new entry, over a new block. -/
theorem env_push (hE : Wf G E) {w' : World} (hg : E.w.grownBy w' none) (b : Nat) (hb : E.w.heap.size ≤ b) (hb' : b < w'.heap.size) (x : ABox)
    (hx : Ext E { E with w := w', mu := E.mu ++ [some b], S := E.S ++ [x] } → entryOk { E with w := w', mu := E.mu ++ [some b], S := E.S ++ [x] } E.S.length x) :
    Ext E { E with w := w', mu := E.mu ++ [some b], S := E.S ++ [x] } ∧ Wf G { E with w := w', mu := E.mu ++ [some b], S := E.S ++ [x] } := by
  have hblk : ∀ b, b < E.w.heap.size → w'.heap[b]? = E.w.heap[b]? := fun b hb => hg.block b hb (by simp)
  have hmu : ∀ i : Nat, i < E.S.length → (E.mu ++ [some b])[i]? = E.mu[i]? := fun i hi => List.getElem?_append_left (by rw [hE.len]; exact hi)
  have hS : ∀ (i : Nat), i < E.S.length → (E.S ++ [x])[i]? = E.S[i]? := fun i hi => List.getElem?_append_left hi
  have lt_of : ∀ (i : Nat) (y : ABox), E.S[i]? = some y → i < E.S.length := fun i y h => by
    rcases Nat.lt_or_ge i E.S.length with hlt | hge
    · exact hlt
    · rw [List.getElem?_eq_none hge] at h; cases h
  have hxt : Ext E { E with w := w', mu := E.mu ++ [some b], S := E.S ++ [x] } := by
    refine ⟨rfl, rfl, rfl, hg.size, hg.os, hg.tape, hg.output, by simp, fun c hc hf => ⟨fun i => ?_, hblk c hc⟩, fun i y h hy => ⟨hmu i (lt_of i y h), y, (hS i (lt_of i y h)).trans h, hy⟩,
      fun i n sz t h => ⟨n, (hS i (lt_of i _ h)).trans h, Nat.le_refl _, fun _ => ⟨hmu i (lt_of i _ h), fun c hc => hblk c (hE.lt i c hc)⟩,
        fun c hc => ⟨fun o _ => cell_same (hblk c (hE.lt i c hc)) _ _, .inl ((hmu i (lt_of i _ h)).trans hc)⟩⟩, fun i c _ h hc => ⟨(hS i (lt_of i _ h)).trans h, hblk c (hE.lt i c hc)⟩⟩
    show (E.mu ++ [some b])[i]? ≠ some (some c)
    rw [List.getElem?_append]
    split
    · exact hf i
    · intro h
      have : (some b) = some c := by
        rcases hi : i - E.mu.length with _ | k
        · rw [hi] at h; simpa using h
        · rw [hi] at h; simp at h
      injection this with this
      omega
  have hmem : ∀ (i c : Nat), (E.mu ++ [some b])[i]? = some (some c) → (i < E.S.length ∧ E.mu[i]? = some (some c)) ∨ (i = E.S.length ∧ c = b) := by
    intro i c h
    rw [List.getElem?_append] at h
    split at h
    · exact .inl ⟨by rw [← hE.len]; assumption, h⟩
    · rcases hi : i - E.mu.length with _ | k
      · rw [hi] at h
        refine .inr ⟨by rw [← hE.len]; omega, ?_⟩
        simp at h; exact h.symm
      · rw [hi] at h; simp at h
  refine ⟨hxt, by simp [hE.len], fun i j c h1 h2 => ?_, fun i c h => ?_, Nat.le_trans hE.base hg.size, fun c o hc ho => (hxt.free c (Nat.lt_of_lt_of_le hc hE.base) (hE.im c o hc ho)).1, fun i y h => ?_, fun g v h => (hE.glob g v h).ext hE hxt⟩
  · rcases hmem i c h1 with ⟨l1, m1⟩ | ⟨e1, c1⟩ <;> rcases hmem j c h2 with ⟨l2, m2⟩ | ⟨e2, c2⟩
    · exact hE.inj i j c m1 m2
    · have := hE.lt i c m1; omega
    · have := hE.lt j c m2; omega
    · omega
  · rcases hmem i c h with ⟨l1, m1⟩ | ⟨e1, c1⟩
    · exact Nat.lt_of_lt_of_le (hE.lt i c m1) hg.size
    · show c < w'.heap.size; omega
  · have h' : (E.S ++ [x])[i]? = some y := h
    rw [List.getElem?_append] at h'
    split at h'
    · next hl => exact (hE.entry i y h').keep hE hxt (hmu i hl) fun c hc => hblk c (hE.lt i c hc)
    · next hl =>
      rcases hi : i - E.S.length with _ | k
      · rw [hi] at h'
        simp at h'
        subst h'
        have : i = E.S.length := by omega
        subst this
        exact hx hxt
      · rw [hi] at h'; simp at h'

/-- A box is written: block b alone has turned. -/
theorem env_set (hE : Wf G E) {w' : World} {i b : Nat} (hm : E.mu[i]? = some (some b)) (hg : E.w.grownBy w' (some b)) (x y : ABox) (hx : E.S[i]? = some x) (hxg : x.isGrow = false) (hyg : y.isGrow = false)
    (hy : Ext E { E with w := w', S := E.S.set i y } → entryOk { E with w := w', S := E.S.set i y } i y) (hxf : ∀ o, x ≠ .frz o := by nofun) :
    Ext E { E with w := w', S := E.S.set i y } ∧ Wf G { E with w := w', S := E.S.set i y } := by
  have hi := hE.mu_lt hm
  have hblk : ∀ c, c < E.w.heap.size → c ≠ b → w'.heap[c]? = E.w.heap[c]? := fun c hc hne => hg.block c hc (by simpa using hne)
  have hother : ∀ (j c : Nat), j ≠ i → E.mu[j]? = some (some c) → w'.heap[c]? = E.w.heap[c]? := fun j c hj h =>
    hblk c (hE.lt j c h) (fun e => hj (hE.inj j i b (e ▸ h) hm))
  have hxt : Ext E { E with w := w', S := E.S.set i y } := by
    refine ⟨rfl, rfl, rfl, hg.size, hg.os, hg.tape, hg.output, by simp, fun c hc hf => ⟨hf, hblk c hc (fun e => hf i (e ▸ hm))⟩, fun j z h hz => ⟨rfl, ?_⟩, fun j n sz t h => ?_, fun j c o h hc => ?_⟩
    · by_cases e : i = j
      · subst e; exact ⟨y, by simp [hi], hyg⟩
      · exact ⟨z, by simp [List.getElem?_set_ne e, h], hz⟩
    · have e : i ≠ j := by
        rintro rfl
        rw [hx] at h; injection h with h; subst h; simp [ABox.isGrow] at hxg
      exact ⟨n, by simp [List.getElem?_set_ne e, h], Nat.le_refl _, fun _ => ⟨rfl, fun c hc => hother j c (Ne.symm e) hc⟩, fun c hc => ⟨fun o _ => cell_same (hother j c (Ne.symm e) hc) _ _, .inl hc⟩⟩
    · have e : i ≠ j := by
        rintro rfl
        rw [hx] at h; injection h with h; exact hxf o h
      exact ⟨(List.getElem?_set_ne e).trans h, hother j c (Ne.symm e) hc⟩
  refine ⟨hxt, by simp [hE.len], hE.inj, fun j c h => Nat.lt_of_lt_of_le (hE.lt j c h) hg.size, Nat.le_trans hE.base hg.size, hE.im, fun j z h => ?_, fun g v h => (hE.glob g v h).ext hE hxt⟩
  by_cases e : i = j
  · subst e
    have : z = y := by simpa [hi] using h.symm
    subst this
    exact hy hxt
  · have h' : E.S[j]? = some z := by simpa [List.getElem?_set_ne e] using h
    exact (hE.entry j z h').keep hE hxt rfl fun c hc => hother j c (Ne.symm e) hc
end
end Go.Am
