/- The abstract layer: what one operation, and a region, is said to do. -/
import Derived.Test.YtodiaabcaahnjaaGreatDoorAmEq
import Derived.Laws.Externs
set_option linter.unusedVariables false
set_option linter.unusedSimpArgs false
namespace Go.Am
open Go
abbrev UL := List (Option Nat × Option Nat)
structure Cx where
  P : Program
  T : TypeId → Option TI
  G : Nat → Option AVal
  pc : FuncId → Bool
  bm : Nat → Option UL
structure Cx.Ok (C : Cx) : Prop where
  T : TOk C.P C.T
  cells : ∀ t i, C.T t = some i → C.P.cellsOf t = i.size
  mixed : C.P.follows .mixedOrders = true
structure FW (F : Fence) : Prop where
  fn : ∀ f, F.fn f
  depth : F.depth = none
  alive : F.alive = false
theorem FW.wide : FW Fence.wide := ⟨fun _ => trivial, rfl, rfl⟩
theorem FW.inRound {F : Fence} (h : FW F) (l : Nat) : FW (F.inRound l) := ⟨h.fn, h.depth, h.alive⟩
theorem FW.fenced {F : Fence} (h : FW F) (P : Program) (m : Machine) : m.fenced P F := by
  intro g _
  refine ⟨fun e => ?_, Or.inl (h.fn _), fun _ _ => h.fn _, fun d hd => ?_⟩
  · rw [h.alive] at e; cases e
  · rw [h.depth] at hd; cases hd
theorem FW.room {F : Fence} (h : FW F) (n : Nat) : F.room n := fun d hd => by rw [h.depth] at hd; cases hd
theorem FW.callsIn {F : Fence} (h : FW F) {n : Nat} {P : Program} {f : FuncId} {args : Array Value} {w : World} {R : Ending → World → Prop} : CallsIn F n P f args w R ↔ Calls P f args w R := by
  have key : ∀ m m', StepsIn (Machine.fenced P F) P m m' ↔ Steps P m m' := fun m m' =>
    ⟨StepsIn.steps, fun k => (StepsIn.of_steps k).mono fun m _ => h.fenced P m⟩
  have kc : ∀ m m' e, ComesIn (Machine.fenced P F) P m m' e ↔ Comes P m m' e := by
    intro m m' e
    cases e with
    | returned v => exact key m m'
    | panicked chain => exact key m m'
    | outgrown => exact Iff.rfl
  exact ⟨fun k cs => let ⟨e, w', fr, r, s, x⟩ := k.2 cs (h.room _); ⟨e, w', fr, r, (kc _ _ _).1 s, x⟩,
    fun k => ⟨h.fn _, fun cs _ => let ⟨e, w', fr, r, s, x⟩ := k cs; ⟨e, w', fr, r, (kc _ _ _).2 s, x⟩⟩⟩
def ofConst : Value → AVal
  | .agg cs => .agg (cs.toList.map ofCell)
  | .tuple cs => .tup (cs.toList.map ofCell)
  | v => ofCell v
theorem R.ofConst (E : Env) (v : Value) : R E (ofConst v) v := by
  unfold Am.ofConst
  split
  · exact .agg _ _ (by simp) fun j hj => by
      simp only [List.length_map, Array.length_toList] at hj
      simp only [List.getElem_map, Array.getElem_toList, Array.getD, hj, dite_true]
      exact .ofCell _ _
  · exact .tup _ _ (by simp) fun j hj => by
      simp only [List.length_map, Array.length_toList] at hj
      simp only [List.getElem_map, Array.getElem_toList, Array.getD, hj, dite_true]
      exact .ofCell _ _
  · exact .ofCell _ _
def aEval (C : Cx) (g : Nat → AVal) : Operand → AVal
  | .tmp t => g t
  | .const v => ofConst v
  | .global x => (C.G x).getD .any
  | .func f => .fn (.func f) [] []
theorem R.eval {C : Cx} {E : Env} {N : Nat} {g : Nat → AVal} {a : Act} (hE : Wf C.G E) (h : RF E N g a) (x : Operand) : R E (aEval C g x) (a.eval x) := by
  cases x with
  | tmp t => exact h.slot t
  | const v => exact .ofConst _ _
  | global y =>
    simp only [aEval, Act.eval]
    cases hg : C.G y with
    | none => exact .any _
    | some v => exact (hE.glob y v hg).r
  | func f => exact .fn _ _ _ _ _ rfl rfl (fun j h => by simp at h) (fun j h => by simp at h)
def OpOk (C : Cx) (o : Oper) (g : Nat → AVal) (S : St) (r : AVal) (S' : St) : Prop :=
  ∀ (F : Fence) (n : Nat), FW F → ∀ (E : Env) (N : Nat) (a : Act), Wf C.G E → E.S = S → RF E N g a → ∀ (next : Act → World → Prop) (Q : Exit → Act → World → Prop),
    (∀ E' x, Ext E E' → Wf C.G E' → E'.S = S' → R E' r x → next (a.put o.dst x) E'.w) → o.wpIn F n C.P a E.w next Q
theorem OpOk.of_run {C : Cx} {o : Oper} {g : Nat → AVal} {S S' : St} {r : AVal} (hnd : ∀ c, o.op ≠ .defer c)
    (h : ∀ (E : Env) (N : Nat) (a : Act), Wf C.G E → E.S = S → RF E N g a → ∃ E' x nx, (execOp a.eval o).run C.P E.w = .ok nx E'.w ∧ (nx = .value x ∨ (nx = .skip ∧ x = undef)) ∧ Ext E E' ∧ Wf C.G E' ∧ E'.S = S' ∧ R E' r x) :
    OpOk C o g S r S' := by
  intro F n hF E N a hE hS hr next Q hk
  obtain ⟨E', x, nx, h1, h2, h3, h4, h5, h6⟩ := h E N a hE hS hr
  refine ⟨fun f _ => hF.fn f, ?_⟩
  rw [Oper.semAt_eq _ _ _ hnd, h1]
  rcases h2 with rfl | ⟨rfl, rfl⟩
  · exact hk E' x h3 h4 h5 h6
  · exact hk E' _ h3 h4 h5 h6
structure ACall (C : Cx) (f : FuncId) (args : List AVal) (S : St) (r : AVal) (S' : St) : Prop where
  callable : ∃ fn, C.P.funcs[f]? = some fn ∧ fn.body.isSome = true ∧ (fn.name == "runtime.NumGoroutine") = false
  ok : ∀ (E : Env) (vs : Array Value), Wf C.G E → E.S = S → vs.size = args.length → (∀ j (h : j < args.length), R E args[j] (vs.getD j undef)) →
    Calls C.P f vs E.w fun e w' => ∃ E' v, e = .returned v ∧ E'.w = w' ∧ Wf C.G E' ∧ Ext E E' ∧ E'.S = S' ∧ R E' r v
structure AExt (C : Cx) (f : FuncId) (args : List AVal) (r : AVal) : Prop where
  ex : ∃ fn e, C.P.funcs[f]? = some fn ∧ (fn.name == "runtime.NumGoroutine") = false ∧ fn.body.isNone = true ∧ Extern.findNext fn = none ∧ Extern.find fn = some e ∧
    ∀ (E : Env) (vs : Array Value), Wf C.G E → vs.size = args.length → (∀ j (h : j < args.length), R E args[j] (vs.getD j undef)) → ∃ v, (e vs).run C.P E.w = .ok v E.w ∧ R E r v
def AYield (C : Cx) (i : Nat) (args : List AVal) (S : St) (r : AVal) (S' : St) : Prop :=
  ∀ (F : Fence) (n : Nat), FW F → ∀ (E : Env) (vs : Array Value) (b : Nat), Wf C.G E → E.S = S → E.mu[i]? = some (some b) → vs.size = args.length → (∀ j (h : j < args.length), R E args[j] (vs.getD j undef)) →
    ∃ fn tmps asg body, (Instr.yield b vs).run C.P E.w = .ok (.round b fn tmps asg body) E.w ∧
      RoundIn F n C.P b fn tmps asg body E.w fun e w' => ∃ E' v, e = .returned v ∧ E'.w = w' ∧ Wf C.G E' ∧ Ext E E' ∧ E'.S = S' ∧ R E' r v
def CallA (C : Cx) (f : FuncId) (args : List AVal) (S : St) (r : AVal) (S' : St) : Prop := ACall C f args S r S' ∨ (S' = S ∧ AExt C f args r)
def CallX (C : Cx) (f : FuncId) (args : List AVal) (S : St) (r : AVal) (S' : St) : Prop :=
  CallA C f args S r S' ∧ (C.pc f = true → S' = S ∧ ∀ U, CallA C f args U r U)
theorem args_rel {C : Cx} {E : Env} {N : Nat} {g : Nat → AVal} {a : Act} (hE : Wf C.G E) (hr : RF E N g a) {xs : Array Operand} {first captured : List AVal} {as bs : Array Value} (l1 : as.size = first.length) (l2 : bs.size = captured.length)
    (rx : ∀ j (h : j < first.length), R E first[j] (as.getD j undef)) (ry : ∀ j (h : j < captured.length), R E captured[j] (bs.getD j undef)) :
    ∀ j (hj : j < (first ++ xs.toList.map (aEval C g) ++ captured).length), R E ((first ++ xs.toList.map (aEval C g) ++ captured)[j]) ((as ++ xs.map a.eval ++ bs).getD j undef) := by
  intro j hj
  simp only [List.length_append, List.length_map, Array.length_toList] at hj
  simp only [Array.getD_eq_getD_getElem?]
  by_cases j1 : j < first.length
  · rw [Array.getElem?_append_left (by simp; omega), Array.getElem?_append_left (by omega)]
    rw [List.getElem_append_left (by simp; omega), List.getElem_append_left j1]
    have := rx j j1
    rwa [Array.getD_eq_getD_getElem?] at this
  · by_cases j2 : j < first.length + xs.size
    · rw [Array.getElem?_append_left (by simp; omega), Array.getElem?_append_right (by omega)]
      rw [List.getElem_append_left (by simp; omega), List.getElem_append_right (by omega)]
      have hlt : j - as.size < xs.size := by omega
      have e1 : (xs.map a.eval)[j - as.size]? = some (a.eval xs[j - as.size]) := by simp [hlt]
      rw [e1]
      simp only [List.getElem_map, Array.getElem_toList, l1, Option.getD_some]
      exact R.eval hE hr _
    · rw [Array.getElem?_append_right (by simp; omega)]
      rw [List.getElem_append_right (by simp; omega)]
      have hlt : j - (first.length + xs.size) < captured.length := by omega
      have := ry _ hlt
      rw [Array.getD_eq_getD_getElem?] at this
      simpa [l1] using this
theorem OpOk.of_ext {C : Cx} {o : Oper} {g : Nat → AVal} {S : St} {r : AVal} {x : Operand} {xs : Array Operand} {ts : Array TypeId} {f : FuncId} {first captured : List AVal} (ho : o.op = .call { callee := .value x, args := xs, argTypes := ts })
    (hf : aEval C g x = .fn (.func f) first captured) (h : AExt C f (first ++ xs.toList.map (aEval C g) ++ captured) r) : OpOk C o g S r S := by
  refine OpOk.of_run (fun c hc => by rw [ho] at hc; cases hc) fun E N a hE hS hr => ?_
  obtain ⟨fn, e, h1, h2, h3, h4, h5, h6⟩ := h.ex
  have hx := R.eval hE hr x
  rw [hf] at hx
  generalize hv : a.eval x = v at hx
  cases hx with
  | fn _ _ _ as bs l1 l2 rx ry =>
    obtain ⟨v, v1, v2⟩ := h6 E (as ++ xs.map a.eval ++ bs) hE (by simp [l1, l2]) (args_rel hE hr l1 l2 rx ry)
    refine ⟨E, v, .value v, ?_, .inl rfl, Ext.refl E, hE, hS, v2⟩
    simp only [execOp, ho, resolve, Sem.run_bind, Deferred.ofValue, hv, Sem.run_pure, Result.andThen_ok, invoke]
    rw [run_callFunc_extern h1 h2 h3 h4 h5, v1]
    rfl
theorem OpOk.of_call {C : Cx} {o : Oper} {g : Nat → AVal} {S S' : St} {r : AVal} {x : Operand} {xs : Array Operand} {ts : Array TypeId} {f : FuncId} {first captured : List AVal} (ho : o.op = .call { callee := .value x, args := xs, argTypes := ts })
    (hf : aEval C g x = .fn (.func f) first captured) (h : ACall C f (first ++ xs.toList.map (aEval C g) ++ captured) S r S') : OpOk C o g S r S' := by
  intro F n hF E N a hE hS hr next Q hk
  obtain ⟨fn, h1, h2, h3⟩ := h.callable
  have hx := R.eval hE hr x
  rw [hf] at hx
  refine ⟨fun f _ => hF.fn f, ?_⟩
  rw [Oper.semAt_eq _ _ _ (by rw [ho]; intro c h; cases h)]
  generalize hv : a.eval x = v at hx
  cases hx with
  | fn _ _ _ as bs l1 l2 rx ry =>
    have hne : fn.body.isNone = false := by cases hb : fn.body <;> simp [hb] at h2 ⊢
    have hrun : (execOp a.eval o).run C.P E.w = .ok (.enter f (as ++ xs.map a.eval ++ bs)) E.w := by
      simp only [execOp, ho, resolve, Sem.run_bind, Deferred.ofValue, hv, Sem.run_pure, Result.andThen_ok, invoke, callFunc]
      simp only [program, Sem.run, Result.andThen_ok, h1, h3, hne, Bool.false_eq_true, if_false, Sem.run_pure]
    rw [hrun, Oper.uponIn_enter]
    refine ⟨fun hd => (by rw [hF.depth] at hd; cases hd), hF.callsIn.2 ?_⟩
    refine (h.ok E (as ++ xs.map a.eval ++ bs) hE hS (by simp [l1, l2]) (fun j hj => ?_)).mono ?_
    · simp only [List.length_append, List.length_map, Array.length_toList] at hj
      simp only [Array.getD_eq_getD_getElem?]
      by_cases j1 : j < first.length
      · rw [Array.getElem?_append_left (by simp; omega), Array.getElem?_append_left (by omega)]
        rw [List.getElem_append_left (by simp; omega), List.getElem_append_left j1]
        have := rx j j1
        rwa [Array.getD_eq_getD_getElem?] at this
      · by_cases j2 : j < first.length + xs.size
        · rw [Array.getElem?_append_left (by simp; omega), Array.getElem?_append_right (by omega)]
          rw [List.getElem_append_left (by simp; omega), List.getElem_append_right (by omega)]
          have hlt : j - as.size < xs.size := by omega
          have e1 : (xs.map a.eval)[j - as.size]? = some (a.eval xs[j - as.size]) := by simp [hlt]
          rw [e1]
          simp only [List.getElem_map, Array.getElem_toList, l1, Option.getD_some]
          exact R.eval hE hr _
        · rw [Array.getElem?_append_right (by simp; omega)]
          rw [List.getElem_append_right (by simp; omega)]
          have hlt : j - (first.length + xs.size) < captured.length := by omega
          have := ry _ hlt
          rw [Array.getD_eq_getD_getElem?] at this
          simpa [l1] using this
    · rintro e w' ⟨E', v, rfl, rfl, h4, h5, h6, h7⟩
      exact hk E' v h5 h4 h6 h7
theorem OpOk.of_yield {C : Cx} {o : Oper} {g : Nat → AVal} {S S' : St} {r : AVal} {x : Operand} {xs : Array Operand} {ts : Array TypeId} {i : Nat} (ho : o.op = .call { callee := .value x, args := xs, argTypes := ts })
    (hf : aEval C g x = .yld i) (h : AYield C i (xs.toList.map (aEval C g)) S r S') : OpOk C o g S r S' := by
  intro F n hF E N a hE hS hr next Q hk
  have hx := R.eval hE hr x
  rw [hf] at hx
  refine ⟨fun f _ => hF.fn f, ?_⟩
  rw [Oper.semAt_eq _ _ _ (by rw [ho]; intro c h; cases h)]
  generalize hv : a.eval x = v at hx
  cases hx with
  | yld _ b hm hb =>
    obtain ⟨fn, tmps, asg, body, hy, hrd⟩ := h F (n - 1) hF E (xs.map a.eval) b hE hS hm (by simp) (fun j hj => by
      have hj' : j < xs.size := by simpa using hj
      have e1 : (xs.map a.eval).getD j undef = a.eval xs[j] := by simp [Array.getD_eq_getD_getElem?, hj']
      rw [e1]
      simp only [List.getElem_map, Array.getElem_toList]
      exact R.eval hE hr _)
    have hrun : (execOp a.eval o).run C.P E.w = .ok (.round b fn tmps asg body) E.w := by
      simp only [execOp, ho, resolve, Sem.run_bind, Deferred.ofValue, hv, Sem.run_pure, Result.andThen_ok, invoke]
      simpa using hy
    rw [hrun, Oper.uponIn_round]
    refine ⟨fun hd => (by rw [hF.depth] at hd; cases hd), hrd.mono ?_⟩
    rintro e w' ⟨E', v, rfl, rfl, h4, h5, h6, h7⟩
    exact hk E' v h5 h4 h6 h7
theorem OpOk.of_callA {C : Cx} {o : Oper} {g : Nat → AVal} {S S' : St} {r : AVal} {x : Operand} {xs : Array Operand} {ts : Array TypeId} {f : FuncId} {first captured : List AVal} (ho : o.op = .call { callee := .value x, args := xs, argTypes := ts })
    (hf : aEval C g x = .fn (.func f) first captured) (h : CallA C f (first ++ xs.toList.map (aEval C g) ++ captured) S r S') : OpOk C o g S r S' := by
  rcases h with h | ⟨rfl, h⟩
  · exact .of_call ho hf h
  · exact .of_ext ho hf h
end Go.Am
