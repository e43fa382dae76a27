/- The abstract layer, reckoned by the kernel: code. -/
import Derived.Test.YtbkfnbnechpolaaDoorAmExec2
set_option linter.unusedVariables false
set_option linter.unusedSimpArgs false
namespace Go.Am
open Go

noncomputable section

/-- How code ends. -/
inductive XE
  | nrm
  | ext (id : Nat)
  | ret

def XE.ex : XE → Exit
  | .nrm => .normal
  | .ext id => .exit id
  | .ret => .ret

def xget : Fr → Nat → AVal
  | [], _ => .any
  | (k, v) :: r, t => bif Nat.beq t k then v else xget r t

def xput : Fr → Nat → AVal → Fr
  | [], k, v => [(k, v)]
  | (j, w) :: r, k, v => bif Nat.beq j k then (k, v) :: r else (j, w) :: xput r k v

def xputO (fr : Fr) (d : Option Nat) (v : AVal) : Fr :=
  match d with
  | some k => xput fr k v
  | none => fr

theorem xget_eq : ∀ (fr : Fr) (t : Nat), xget fr t = fr.get t
  | [], _ => rfl
  | (k, v) :: r, t => by
    simp only [xget, Fr.get]
    cases h : Nat.beq t k with
    | true => rw [if_pos (nbeq h)]; rfl
    | false => rw [if_neg (fun e => by rw [e] at h; simp at h), xget_eq r t]; rfl

theorem xput_get : ∀ (fr : Fr) (k : Nat) (v : AVal) (t : Nat), (xput fr k v).get t = if t = k then v else fr.get t
  | [], k, v, t => by simp [xput, Fr.get]
  | (j, w) :: r, k, v, t => by
    simp only [xput]
    cases h : Nat.beq j k with
    | true =>
      have e := nbeq h
      subst e
      simp only [cond_true, Fr.get]
      split <;> rfl
    | false =>
      have hne : j ≠ k := fun e => by rw [e] at h; simp at h
      simp only [cond_false, Fr.get, xput_get r k v t]
      by_cases e1 : t = j
      · subst e1; rw [if_pos rfl, if_neg hne, if_pos rfl]
      · rw [if_neg e1, if_neg e1]

theorem xputO_get (fr : Fr) (d : Option Nat) (v : AVal) : (xputO fr d v).get = upd fr.get d v := by
  cases d with
  | none => rfl
  | some k => funext t; exact xput_get fr k v t

theorem xget_fun (fr : Fr) : (fun t => xget fr t) = fr.get := funext (xget_eq fr)

def xWant (gd : Option (Option Nat × Bool)) (fr : Fr) : Option Bool :=
  match gd with
  | none => some true
  | some (none, _) => none
  | some (some d, want) => match xget fr d with
    | .bool b => some (b == want)
    | .raw v => match v with
      | .tuple _ => some false
      | _ => none
    | _ => none

theorem xWant_eq {gd : Option (Option Nat × Bool)} {fr : Fr} : xWant gd fr = wantL gd fr := by
  unfold xWant wantL
  split
  · rfl
  · rfl
  · next d w =>
    rw [xget_eq]
    rfl

abbrev Fuel := FuncId → List AVal → St → Option (AVal × St)
abbrev FuelY := Nat → List AVal → St → Option (AVal × St)

/-- One operation: a call, or not. -/
def xOp (C : Cx) (X : Fuel) (Y : FuelY) (op : Op) (fr : Fr) (S : St) : Option (AVal × St) :=
  match op with
  | .call ⟨.value x, xs, _⟩ => match aEval C (fun t => xget fr t) x with
    | .fn (.func f) as bs => X f (as ++ xs.toList.map (aEval C fun t => xget fr t) ++ bs) S
    | .yld i => Y i (xs.toList.map (aEval C fun t => xget fr t)) S
    | _ => none
  | op => xStep C (fun t => xget fr t) S op

/-- What is known of calls. -/
def XOk (C : Cx) (X : Fuel) : Prop := ∀ f args S r S', X f args S = some (r, S') → CallX C f args S r S'
def YOk (C : Cx) (Y : FuelY) : Prop := ∀ i args S r S', Y i args S = some (r, S') → AYield C i args S r S'

theorem xOp_ok {C : Cx} {X : Fuel} {Y : FuelY} (hX : XOk C X) (hY : YOk C Y) {o : Oper} {fr : Fr} {S : St} {r : AVal} {S' : St} (h : xOp C X Y o.op fr S = some (r, S')) : StepX C o fr.get S r S' := by
  unfold xOp at h
  rw [xget_fun] at h
  split at h
  · next x xs ts ho =>
    split at h
    · next f as bs hf => exact .call x xs ts f as bs r S' ho hf (hX _ _ _ _ _ h)
    · next i hf => exact .yield x xs ts i r S' ho hf (hY _ _ _ _ _ h)
    · cases h
  · obtain ⟨sd, h1, h2⟩ := xStep_ok h
    exact .step ⟨sd, r, S'⟩ h1 h2

/-- A region, in the order of the text. -/
def xL (C : Cx) (X : Fuel) (Y : FuelY) : List LO → Fr → St → Option (Fr × St)
  | [], fr, S => some (fr, S)
  | o :: rest, fr, S => match xWant o.gd fr with
    | none => none
    | some false => xL C X Y rest (xputO fr o.d (.raw undef)) S
    | some true => match xOp C X Y o.op fr S with
      | none => none
      | some (r, S') => xL C X Y rest (xputO fr o.d r) S'

theorem xL_run {C : Cx} {N : Nat} {X : Fuel} {Y : FuelY} (hX : XOk C X) (hY : YOk C Y) {ops : Array Oper} : ∀ (l : List Oper) (fr : Fr) (S : St) (fr' : Fr) (S' : St), (∀ o ∈ l, dstB N o = true) →
    xL C X Y (l.map (liteO ops)) fr S = some (fr', S') → ARun C ops N none l fr.get S fr'.get S' := by
  intro l
  induction l with
  | nil =>
    intro fr S fr' S' _ h
    simp only [List.map_nil, xL, Option.some.injEq, Prod.mk.injEq] at h
    obtain ⟨rfl, rfl⟩ := h
    exact .nil _ _
  | cons o l ih =>
    intro fr S fr' S' hd h
    simp only [List.map_cons, xL] at h
    rw [xWant_eq, wantL_eq] at h
    have hdo : ∀ k, o.dst = some k → k < N := fun k hk => by
      have := hd o (List.mem_cons_self ..)
      simp only [dstB, hk, decide_eq_true_eq] at this
      exact this
    have hd' : ∀ o ∈ l, dstB N o = true := fun o ho => hd o (List.mem_cons_of_mem _ ho)
    split at h
    · cases h
    · next hw =>
      have := ih _ _ _ _ hd' h
      rw [xputO_get] at this
      exact .skip o l _ S _ _ hw hdo this
    · next hw =>
      split at h
      · cases h
      · next r S1 ho =>
        have := ih _ _ _ _ hd' h
        rw [xputO_get] at this
        exact .run o l _ S r S1 _ _ hw hdo (xOp_ok hX hY (o := o) ho) trivial this

/-! ### A region in which boxes may be made, and loads may stand, wherever they may -/
def mk0 (fx : Bool) : ABox := bif fx then .mpx [] 0 else .mp [] 0

/-- A new slice's box. -/
def sl0 (C : Cx) (t : TypeId) (m : Int) : ABox := match C.T t with
  | some i => match i.d with
    | .slice e => match C.T e with
      | some j => .cells (List.replicate m.toNat j.zero).flatten e
      | none => .hole
    | _ => .hole
  | none => .hole

def xHoles (C : Cx) (fx : Bool) : List LO → Nat → Holes
  | [], _ => []
  | o :: rest, k => match o.op with
    | .alloc t => (match C.T t with | some i => (k, .cells i.zero t) | none => (k, .hole)) :: xHoles C fx rest (k + 1)
    | .makeMap _ _ => (k, mk0 fx) :: xHoles C fx rest (k + 1)
    | .makeSlice t (.const (.int .i64 _)) (.const (.int .i64 m)) => (k, sl0 C t m) :: xHoles C fx rest (k + 1)
    | _ => xHoles C fx rest k

def isMk : Op → Bool
  | .alloc _ => true
  | .makeMap _ none => true
  | .makeSlice _ l c => constI l && constI c
  | _ => false

/-- A box is made in its place. -/
def xMk (C : Cx) (fx : Bool) (op : Op) (k : Nat) (S : St) : Option (AVal × St × ABox) :=
  match S[k]? with
  | some .hole => match op with
    | .alloc t => match C.T t with
      | some i => some (.ptr k 0, S.set k (.cells i.zero t), .cells i.zero t)
      | none => none
    | .makeMap _ none => some (.map k, S.set k (mk0 fx), mk0 fx)
    | .makeSlice t (.const (.int .i64 n)) (.const (.int .i64 m)) => match C.T t with
      | some i => match i.d with
        | .slice e => match C.T e with
          | some j => bif decide (0 ≤ n) && decide (n ≤ m) && decide (m ≤ 9223372036854775807) && decide (j.bytes * m.toNat ≤ 140737488355328) then
              some (.view k 0 n.toNat m.toNat, S.set k (.cells (List.replicate m.toNat j.zero).flatten e), .cells (List.replicate m.toNat j.zero).flatten e)
            else none
          | none => none
        | _ => none
      | none => none
    | _ => none
  | _ => none

def inL (B : List Nat) (b : Nat) : Bool := B.any fun x => Nat.beq x b

def keptB (U : UL) (B : List (Option Nat × Nat)) (d : Option Nat) (S S' : St) : Bool := B.all fun e => !inU U e.1 d || match S[e.2]?, S'[e.2]? with
  | some x, some y => beqB y x
  | none, none => true
  | _, _ => false
def isHole : Option ABox → Bool
  | some .hole => true
  | _ => false
def keptH (H : Holes) (S S' : St) : Bool := H.all fun e => !isHole S'[e.1]? || isHole S[e.1]?

/-- What may write: it goes as well where the one box is there that is yet to be made. -/
def xFill (C : Cx) (X : Fuel) (Y : FuelY) (H : Holes) (op : Op) (fr : Fr) (S : St) (r : AVal) (S' : St) : Bool :=
  match H.filter fun e => isHole S[e.1]? with
  | [] => true
  | [e] => match xOp C X Y op fr (S.set e.1 e.2) with
    | some (r2, T) => veq r2 r && seq T (S'.set e.1 e.2) && !isHole (some e.2)
    | none => false
  | _ => false

/-- A call that looks at nothing and changes nothing. -/
def xPlOp (C : Cx) (PL : FuncId → List AVal → Option AVal) (op : Op) (fr : Fr) : Option AVal :=
  match op with
  | .call ⟨.value x, xs, _⟩ => match aEval C (fun t => xget fr t) x with
    | .fn (.func f) as bs => PL f (as ++ xs.toList.map (aEval C fun t => xget fr t) ++ bs)
    | _ => none
  | _ => none

def PLOk (C : Cx) (PL : FuncId → List AVal → Option AVal) : Prop := ∀ f args r, PL f args = some r → ∀ S, CallX C f args S r S

/-- What is read, and what is done, with the states before and after. -/
structure Lg where
  rd : List (Option Nat × Nat)
  wr : List (Option Nat × St × St)

def insB (C : Cx) (fx : Bool) (S : St) (op : Op) (fr : Fr) : Bool :=
  bif fx && isIns op then match op with
    | .insert _ m _ _ => match aEval C (fun t => xget fr t) m with
      | .map b => match S[b]? with
        | some (.mpx _ _) => true
        | _ => false
      | _ => false
    | _ => false
  else true

theorem insB_ok {C : Cx} {fx : Bool} {S : St} {o : Oper} {fr : Fr} (h : insB C fx S o.op fr = true) (hf : fx = true) (hi : isIns o.op = true) : insX C o fr.get S := by
  unfold insB at h
  rw [hf, hi] at h
  simp only [Bool.and_self, cond_true] at h
  split at h
  · next t m k v ho =>
    rw [xget_fun] at h
    split at h
    · next b hb =>
      split at h
      · next es c hS => exact ⟨t, m, k, v, b, es, c, ho, hb, hS⟩
      · cases h
    · cases h
  · cases h

def xLB (C : Cx) (X : Fuel) (Y : FuelY) (PL : FuncId → List AVal → Option AVal) (fx : Bool) (H : Holes) : List LO → Nat → Fr → St → Option (Fr × St × Lg)
  | [], _, fr, S => some (fr, S, ⟨[], []⟩)
  | o :: rest, k, fr, S => match xWant o.gd fr with
    | none => none
    | some false => xLB C X Y PL fx H rest (bif isMk o.op then k + 1 else k) (xputO fr o.d (.raw undef)) S
    | some true => bif isMk o.op then
        match xMk C fx o.op k S with
        | none => none
        | some (r, S', x) => bif (H.any fun e => Nat.beq e.1 k && beqB e.2 x) && !isHole (some x) then
            match xLB C X Y PL fx H rest (k + 1) (xputO fr o.d r) S' with
            | some (fr2, S2, L) => some (fr2, S2, ⟨L.rd, (o.d, S, S') :: L.wr⟩)
            | none => none
          else none
      else match xPlOp C PL o.op fr with
        | some r => xLB C X Y PL fx H rest k (xputO fr o.d r) S
        | none => match xOp C X Y o.op fr S with
          | none => none
          | some (r, S') => match cls C o.op with
            | 0 => xLB C X Y PL fx H rest k (xputO fr o.d r) S'
            | 1 => match loadBox C o.op (fun t => xget fr t) with
              | none => xLB C X Y PL fx H rest k (xputO fr o.d r) S'
              | some b => match xLB C X Y PL fx H rest k (xputO fr o.d r) S' with
                | some (fr2, S2, L) => some (fr2, S2, ⟨(o.d, b) :: L.rd, L.wr⟩)
                | none => none
            | 2 => bif insB C fx S o.op fr && (keptH H S S' && xFill C X Y H o.op fr S r S') then
                match xLB C X Y PL fx H rest k (xputO fr o.d r) S' with
                | some (fr2, S2, L) => some (fr2, S2, ⟨L.rd, (o.d, S, S') :: L.wr⟩)
                | none => none
              else none
            | _ => none

def okLg (U : UL) (L : Lg) : Bool := L.wr.all fun w => keptB U L.rd w.1 w.2.1 w.2.2

/-- A region in which boxes are made ahead, and loads change places. -/
def xLR (C : Cx) (X : Fuel) (Y : FuelY) (PL : FuncId → List AVal → Option AVal) (U : UL) (H : Holes) (l : List LO) (k : Nat) (fr : Fr) (S : St) : Option (Fr × St) :=
  match xLB C X Y PL (inU U none none) H l k fr S with
  | some (fr', S', L) => bif okLg U L then some (fr', S') else none
  | none => none

theorem inL_ok {B : List Nat} {b : Nat} (h : inL B b = true) : b ∈ B := by
  unfold inL at h
  obtain ⟨x, hx, he⟩ := List.any_eq_true.1 h
  exact nbeq he ▸ hx

theorem inO_self (a : Option Nat) : inO a a = true := by
  cases a with
  | none => rfl
  | some x => simp [inO]

theorem inU_of {U : UL} {a b : Option Nat} (h : (a, b) ∈ U) : inU U a b = true :=
  List.any_eq_true.2 ⟨_, h, by simp [inO_self]⟩

theorem isHole_iff {x : Option ABox} : isHole x = true ↔ x = some .hole := by
  unfold isHole
  split
  · simp
  · next h => simp only [Bool.false_eq_true, false_iff]; exact h

theorem keptB_ok {U : UL} {B : List (Option Nat × Nat)} {d : Option Nat} {S S' : St} (h : keptB U B d S S' = true) : ∀ e ∈ B, (e.1, d) ∈ U → S'[e.2]? = S[e.2]? := by
  intro e he hu
  have := List.all_eq_true.1 h e he
  rw [inU_of hu] at this
  simp only [Bool.not_true, Bool.false_or] at this
  split at this
  · next h1 h2 => rw [h1, h2, beqB_ok this]
  · next h1 h2 => rw [h1, h2]
  · cases this
theorem keptH_ok {H : Holes} {S S' : St} (h : keptH H S S' = true) : ∀ e ∈ H, S'[e.1]? = some .hole → S[e.1]? = some .hole := by
  intro e he hh
  have := List.all_eq_true.1 h e he
  simp only [Bool.or_eq_true, Bool.not_eq_true'] at this
  rcases this with h | h
  · rw [isHole_iff.2 hh] at h; cases h
  · exact isHole_iff.1 h

theorem fill_same {e : Nat × ABox} : ∀ (L : Holes) (S : St), (∀ x ∈ L, x = e) → L ≠ [] → fill S L = S.set e.1 e.2
  | [], _, _, h => absurd rfl h
  | [x], S, h, _ => by
    obtain rfl := h x (List.mem_cons_self ..)
    rfl
  | x :: y :: L, S, h, _ => by
    obtain rfl := h x (List.mem_cons_self ..)
    have := fill_same (y :: L) (S.set x.1 x.2) (fun z hz => h z (List.mem_cons_of_mem _ hz)) (by simp)
    rw [fill, this, List.set_set]

theorem xFill_ok {C : Cx} {X : Fuel} {Y : FuelY} (hX : XOk C X) (hY : YOk C Y) {H : Holes} {o : Oper} {fr : Fr} {S S' : St} {r : AVal} (h0 : StepX C o fr.get S r S') (h : xFill C X Y H o.op fr S r S' = true) :
    ∀ L : Holes, (∀ e ∈ L, e ∈ H ∧ S[e.1]? = some .hole) → StepX C o fr.get (fill S L) r (fill S' L) := by
  intro L hL
  unfold xFill at h
  have hmem : ∀ e ∈ L, e ∈ H.filter fun e => isHole S[e.1]? := fun e he => List.mem_filter.2 ⟨(hL e he).1, isHole_iff.2 (hL e he).2⟩
  split at h
  · next hf =>
    rw [hf] at hmem
    have : L = [] := by
      cases L with
      | nil => rfl
      | cons e L => have := hmem e (List.mem_cons_self ..); simp at this
    subst this
    exact h0
  · next e hf =>
    rw [hf] at hmem
    have hall : ∀ x ∈ L, x = e := fun x hx => by simpa using hmem x hx
    split at h
    · next r2 T hx =>
      simp only [Bool.and_eq_true] at h
      obtain ⟨⟨h1, h2⟩, _⟩ := h
      obtain rfl := veq_ok _ _ h1
      obtain rfl := seq_ok h2
      by_cases hn : L = []
      · subst hn; exact h0
      · rw [fill_same L S hall hn, fill_same L S' hall hn]
        exact xOp_ok hX hY (o := o) hx
    · cases h
  · cases h

theorem xMk_ok {C : Cx} {o : Oper} {g : Nat → AVal} {k : Nat} {S S' : St} {r : AVal} {x : ABox} {fx : Bool} (h : xMk C fx o.op k S = some (r, S', x)) : S[k]? = some .hole ∧ S' = S.set k x ∧ ∀ U : St, U[k]? = some .hole → StepX C o g U r (U.set k x) := by
  unfold xMk at h
  split at h
  · next hk =>
    split at h
    · next t ho =>
      split at h
      · next i hi =>
        injection h with h
        simp only [Prod.mk.injEq] at h
        obtain ⟨rfl, rfl, rfl⟩ := h
        exact ⟨hk, rfl, fun U hU => .fillA k t i ho hi hU⟩
      · cases h
    · next t ho =>
      injection h with h
      simp only [Prod.mk.injEq] at h
      obtain ⟨rfl, rfl, rfl⟩ := h
      refine ⟨hk, rfl, fun U hU => ?_⟩
      cases fx with
      | true => exact .fillX k t ho hU
      | false => exact .fillM k t ho hU
    · next t n m ho =>
      split at h
      · next i hi =>
        split at h
        · next e hd =>
          split at h
          · next j hj =>
            cases hb : (decide (0 ≤ n) && decide (n ≤ m) && decide (m ≤ 9223372036854775807) && decide (j.bytes * m.toNat ≤ 140737488355328)) with
            | false => rw [hb] at h; cases h
            | true =>
              rw [hb] at h
              simp only [cond_true] at h
              simp only [Bool.and_eq_true, decide_eq_true_eq] at hb
              injection h with h
              simp only [Prod.mk.injEq] at h
              obtain ⟨rfl, rfl, rfl⟩ := h
              exact ⟨hk, rfl, fun U hU => .fillS k t e i j n m ho hi hd hj ⟨hb.1.1.1, hb.1.1.2, hb.1.2, hb.2⟩ hU⟩
          · cases h
        · cases h
      · cases h
    · cases h
  · cases h

theorem isMk_cls {C : Cx} {op : Op} (h : isMk op = true) : cls C op = 3 := by
  unfold isMk at h
  split at h <;> first | rfl | (cases h; done) | (simp only [cls]; rw [if_pos h])

theorem loadBox_mk {C : Cx} {op : Op} {g : Nat → AVal} (h : isMk op = true) : loadBox C op g = none := by
  unfold isMk at h
  split at h <;> first | rfl | (cases h; done)

theorem loadBox_cls {C : Cx} {op : Op} {g : Nat → AVal} {b : Nat} (h : loadBox C op g = some b) : cls C op = 1 := by
  unfold loadBox at h
  split at h <;> first | rfl | (cases h; done)

theorem xPlOp_ok {C : Cx} {PL : FuncId → List AVal → Option AVal} (hP : PLOk C PL) {o : Oper} {fr : Fr} {r : AVal} (h : xPlOp C PL o.op fr = some r) : (∀ S, StepX C o fr.get S r S) ∧ cls C o.op ≠ 3 ∧ cls C o.op ≠ 1 := by
  unfold xPlOp at h
  rw [xget_fun] at h
  split at h
  · next x xs ts ho =>
    split at h
    · next f as bs hf =>
      refine ⟨fun S => .call x xs ts f as bs r S ho hf (hP _ _ _ h S), ?_⟩
      rw [ho]
      simp only [cls]
      split
      · simp_all
      · split <;> decide
      · decide
    · cases h
  · cases h

theorem xPlOp_ins {C : Cx} {PL : FuncId → List AVal → Option AVal} {o : Oper} {fr : Fr} {r : AVal} (h : xPlOp C PL o.op fr = some r) : ¬ isIns o.op = true := by
  unfold xPlOp at h
  split at h
  · next ho => rw [ho]; exact fun h => by cases h
  · cases h

theorem xLB_run {C : Cx} {N : Nat} {X : Fuel} {Y : FuelY} {PL : FuncId → List AVal → Option AVal} (hX : XOk C X) (hY : YOk C Y) (hP : PLOk C PL) {ops : Array Oper} {U : UL} {B : List (Option Nat × Nat)} {H : Holes} : ∀ (l : List Oper) (k : Nat) (fr : Fr) (S : St) (fr' : Fr) (S' : St) (L : Lg), (∀ o ∈ l, dstB N o = true) →
    xLB C X Y PL (inU U none none) H (l.map (liteO ops)) k fr S = some (fr', S', L) → (∀ e ∈ L.rd, e ∈ B) → (∀ w ∈ L.wr, keptB U B w.1 w.2.1 w.2.2 = true) → ARun C ops N (some (U, B, H)) l fr.get S fr'.get S' := by
  intro l
  induction l with
  | nil =>
    intro k fr S fr' S' L _ h _ _
    simp only [List.map_nil, xLB, Option.some.injEq, Prod.mk.injEq] at h
    obtain ⟨rfl, rfl, _⟩ := h
    exact .nil _ _
  | cons o l ih =>
    intro k fr S fr' S' L hd h hB hW
    simp only [List.map_cons, xLB] at h
    rw [xWant_eq, wantL_eq, xget_fun] at h
    have hdo : ∀ k, o.dst = some k → k < N := fun k hk => by
      have := hd o (List.mem_cons_self ..)
      simp only [dstB, hk, decide_eq_true_eq] at this
      exact this
    have hd' : ∀ o ∈ l, dstB N o = true := fun o ho => hd o (List.mem_cons_of_mem _ ho)
    split at h
    · cases h
    · next hw =>
      have := ih _ _ _ _ _ _ hd' h hB hW
      rw [xputO_get] at this
      exact .skip o l _ S _ _ hw hdo this
    · next hw =>
      cases hm : isMk o.op with
      | true =>
        have hm' : isMk (liteO ops o).op = true := hm
        rw [hm'] at h
        simp only [cond_true] at h
        split at h
        · cases h
        · next r S1 x hx =>
          cases hb : ((H.any fun e => Nat.beq e.1 k && beqB e.2 x) && !isHole (some x)) with
          | false => rw [hb] at h; cases h
          | true =>
            rw [hb] at h
            simp only [cond_true] at h
            simp only [Bool.and_eq_true, Bool.not_eq_true'] at hb
            obtain ⟨b1, b2⟩ := hb
            obtain ⟨e, he, hek⟩ := List.any_eq_true.1 b1
            simp only [Bool.and_eq_true] at hek
            have hin : (k, x) ∈ H := by
              have e1 := nbeq hek.1
              have e2 := beqB_ok hek.2
              obtain ⟨a, b⟩ := e
              simp only at e1 e2
              rw [← e1, ← e2]; exact he
            have hxn : x ≠ .hole := fun e => by rw [e] at b2; cases b2
            obtain ⟨k1, k2, k3⟩ := xMk_ok (o := o) (g := fr.get) hx
            split at h
            · next fr2 S2 L2 hr =>
              injection h with h
              simp only [Prod.mk.injEq] at h
              obtain ⟨rfl, rfl, rfl⟩ := h
              have := ih _ _ _ _ _ _ hd' hr hB (fun w hw => hW w (List.mem_cons_of_mem _ hw))
              rw [xputO_get] at this
              have hkeep := keptB_ok (hW _ (List.mem_cons_self ..))
              refine .run o l _ S r S1 _ _ hw hdo (k2 ▸ k3 S k1) ⟨fun b hb => ?_, hkeep, fun _ => ⟨k, x, hin, hxn, k1, k2, k3⟩, fun hc => ?_, fun _ hi => ?_⟩ this
              · rw [loadBox_mk hm] at hb; cases hb
              · rw [isMk_cls hm] at hc; cases hc
              · have hc := isIns_cls (C := C) hi
                rw [isMk_cls hm] at hc; cases hc
            · cases h
      | false =>
        have hm' : isMk (liteO ops o).op = false := hm
        rw [hm'] at h
        simp only [cond_false] at h
        split at h
        · next r hpl =>
          obtain ⟨p1, p2, p3⟩ := xPlOp_ok hP (o := o) hpl
          have := ih _ _ _ _ _ _ hd' h hB hW
          rw [xputO_get] at this
          exact .run o l _ S r S _ _ hw hdo (p1 S) ⟨fun b hb => absurd (loadBox_cls hb) p3, fun _ _ _ => rfl, fun hc => absurd hc p2, fun _ => ⟨fun _ _ h => h, fun L _ => p1 _⟩, fun _ hi => absurd hi (xPlOp_ins (o := o) hpl)⟩ this
        split at h
        · cases h
        · next r S1 hx =>
          have hstep := xOp_ok hX hY (o := o) hx
          have ecl : cls C (liteO ops o).op = cls C o.op := rfl
          rw [ecl] at h
          rcases cls_cases C o.op with h0 | h0 | h0 | h0
          · rw [h0] at h
            have := ih _ _ _ _ _ _ hd' h hB hW
            rw [xputO_get] at this
            have e := (hstep.pure h0).1
            subst e
            exact .run o l _ _ r _ _ _ hw hdo hstep ⟨fun b hb => (by have := loadBox_cls hb; rw [h0] at this; cases this), fun _ _ _ => rfl, fun hc => (by rw [h0] at hc; cases hc), fun hc => (by rw [h0] at hc; cases hc), fun _ hi => (by rw [isIns_cls hi] at h0; cases h0)⟩ this
          · rw [h0] at h
            have e := hstep.reads h0
            subst e
            simp only at h
            split at h
            · next hl =>
              have := ih _ _ _ _ _ _ hd' h hB hW
              rw [xputO_get] at this
              exact .run o l _ _ r _ _ _ hw hdo hstep ⟨fun b hb => (by have e : loadBox C (liteO ops o).op fr.get = some b := hb; rw [hl] at e; cases e), fun _ _ _ => rfl, fun hc => (by rw [h0] at hc; cases hc), fun hc => (by rw [h0] at hc; cases hc), fun _ hi => (by rw [isIns_cls hi] at h0; cases h0)⟩ this
            · next b hl =>
              split at h
              · next fr2 S2 L2 hr =>
                injection h with h
                simp only [Prod.mk.injEq] at h
                obtain ⟨rfl, rfl, rfl⟩ := h
                have := ih _ _ _ _ _ _ hd' hr (fun e he => hB e (List.mem_cons_of_mem _ he)) hW
                rw [xputO_get] at this
                refine .run o l _ _ r _ _ _ hw hdo hstep ⟨fun b' hb => ?_, fun _ _ _ => rfl, fun hc => (by rw [h0] at hc; cases hc), fun hc => (by rw [h0] at hc; cases hc), fun _ hi => (by rw [isIns_cls hi] at h0; cases h0)⟩ this
                have e : loadBox C (liteO ops o).op fr.get = some b' := hb
                rw [hl] at e
                injection e with e
                subst e
                exact hB _ (List.mem_cons_self ..)
              · cases h
          · rw [h0] at h
            simp only at h
            cases hb : (insB C (inU U none none) S (liteO ops o).op fr && (keptH H S S1 && xFill C X Y H (liteO ops o).op fr S r S1)) with
            | false => rw [hb] at h; cases h
            | true =>
              rw [hb] at h
              simp only [cond_true] at h
              simp only [Bool.and_eq_true] at hb
              split at h
              · next fr2 S2 L2 hr =>
                injection h with h
                simp only [Prod.mk.injEq] at h
                obtain ⟨rfl, rfl, rfl⟩ := h
                have := ih _ _ _ _ _ _ hd' hr hB (fun w hw => hW w (List.mem_cons_of_mem _ hw))
                rw [xputO_get] at this
                have hkeep := keptB_ok (hW _ (List.mem_cons_self ..))
                exact .run o l _ S r S1 _ _ hw hdo hstep ⟨fun b hb => (by have := loadBox_cls hb; rw [h0] at this; cases this), hkeep, fun hc => (by rw [h0] at hc; cases hc), fun _ => ⟨keptH_ok hb.2.1, xFill_ok hX hY hstep hb.2.2⟩, fun hu hi => insB_ok hb.1 (inU_of hu) hi⟩ this
              · cases h
          · rw [h0] at h; cases h

theorem xLR_run {C : Cx} {N : Nat} {X : Fuel} {Y : FuelY} {PL : FuncId → List AVal → Option AVal} (hX : XOk C X) (hY : YOk C Y) (hP : PLOk C PL) {ops : Array Oper} {U : UL} {H : Holes} {l : List Oper} {k : Nat} {fr : Fr} {S : St} {fr' : Fr} {S' : St} (hd : ∀ o ∈ l, dstB N o = true)
    (h : xLR C X Y PL U H (l.map (liteO ops)) k fr S = some (fr', S')) : ∃ B, ARun C ops N (some (U, B, H)) l fr.get S fr'.get S' := by
  unfold xLR at h
  split at h
  · next fr2 S2 L hx =>
    cases hb : okLg U L with
    | false => rw [hb] at h; cases h
    | true =>
      rw [hb] at h
      simp only [cond_true] at h
      injection h with h
      simp only [Prod.mk.injEq] at h
      obtain ⟨rfl, rfl⟩ := h
      exact ⟨L.rd, xLB_run hX hY hP l k fr S _ _ L hd hx (fun _ h => h) (fun w hw => List.all_eq_true.1 hb w hw)⟩
  · cases h
end
end Go.Am
