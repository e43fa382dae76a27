/- The abstract layer: what is reckoned of one operation, holds. -/
import Derived.Test.YtbkfnbnechpolaaDoorAmStep
set_option linter.unusedVariables false
set_option linter.unusedSimpArgs false
namespace Go.Am
open Go

noncomputable section
open Classical
section
variable {C : Cx} {o : Oper} {g : Nat → AVal} {S : St} {out : Out}

theorem okc_fits {v : AVal} (h : v.okc) : v.fits v.cells.length := ⟨rfl, h⟩

/-- From a result of a value. -/
theorem OpOk.of_val {S' : St} {r : AVal} (hnd : ∀ c, o.op ≠ .defer c) (s : (Operand → Value) → Sem Value) (he : ∀ ρ, execOp ρ o = do pure (.value (← s ρ)))
    (h : ∀ (E : Env) (N : Nat) (a : Act), Wf C.G E → E.S = S → RF E N g a → ROk C.G E S' r ((s a.eval).run C.P E.w)) : OpOk C o g S r S' := by
  refine OpOk.of_run hnd fun E N a hE hS hr => ?_
  obtain ⟨E', x, h1, h2, h3, h4, h5⟩ := h E N a hE hS hr
  refine ⟨E', x, .value x, ?_, .inl rfl, h2, h3, h4, h5⟩
  rw [he, Sem.run_bind, h1]
  rfl

theorem ROk.same {G : Nat → Option AVal} {E : Env} {S : St} {r : AVal} {res : Result Value} (hS : E.S = S) (h : ROk G E E.S r res) : ROk G E S r res := hS ▸ h

theorem bd_val {ρ : Operand → Value} {E : Env} {x : Option Operand} {g : Nat → AVal} {b : Bd} (h : toBd (x.map (aEval C g)) = some b) (hr : ∀ y, R E (aEval C g y) (ρ y)) : x.map ρ = b.val := by
  cases x with
  | none => simp [toBd] at h; subst h; rfl
  | some y =>
    simp only [Option.map_some, toBd] at h
    split at h
    · next he => cases he
    · next k n he =>
      injection he with he
      injection h with h
      subst h
      have := hr y
      rw [he] at this
      simp [Bd.val, this.int_inv]
    · cases h

theorem step_load (hC : C.Ok) {t : TypeId} {x : Operand} (ho : o.op = .load t x) (h : aLoad C S t (aEval C g x) = some out) (hs : out.sd) : OpOk C o g S out.r out.S := by
  refine OpOk.of_val (by rw [ho]; intro c h; cases h) (fun ρ => Instr.loadAt t (ρ x)) (fun ρ => by simp [execOp, ho]) fun E N a hE hS hr => ?_
  have hx := R.eval hE hr x
  unfold aLoad at h
  split at h
  · cases h
  · next i hi =>
    split at h
    · next cs he =>
      injection h with h; subst h
      rw [he] at hx
      exact (load_cptr hE (hC.T.ok t i hi) hx hs).same hS
    · next b off he =>
      split at h
      · next bs tb hb =>
        injection h with h; subst h
        rw [he] at hx
        exact (load_ptr hE (hC.T.ok t i hi) hx (by rw [hS]; exact hb) hs).same hS
      · cases h
    · cases h

theorem step_store (hC : C.Ok) {t : TypeId} {x y : Operand} (ho : o.op = .store t x y) (h : aStore C S t (aEval C g x) (aEval C g y) = some out) (hs : out.sd) : OpOk C o g S out.r out.S := by
  refine OpOk.of_run (by rw [ho]; intro c h; cases h) fun E N a hE hS hr => ?_
  have hx := R.eval hE hr x
  have hy := R.eval hE hr y
  unfold aStore at h
  split at h
  · cases h
  · next i hi =>
    split at h
    · next b off he =>
      split at h
      · next bs tb hb =>
        injection h with h; subst h
        rw [he] at hx
        obtain ⟨h1, h2, h3⟩ := hs
        obtain ⟨E', k1, k2, k3, k4⟩ := store_ptr hE (hC.T.ok t i hi) hx hy (by rw [hS]; exact hb) h1 ⟨h2, h3⟩
        refine ⟨E', undef, .skip, ?_, .inr ⟨rfl, rfl⟩, k2, k3, by rw [k4, hS], .raw _⟩
        simp only [execOp, ho, Sem.run_bind, k1, Result.andThen_ok, Sem.run_pure]
      · cases h
    · cases h

theorem step_indexAddr (hC : C.Ok) {t : TypeId} {x y : Operand} (ho : o.op = .indexAddr t x y) (h : aIndexAddr C S t (aEval C g x) (aEval C g y) = some out) (hs : out.sd) : OpOk C o g S out.r out.S := by
  refine OpOk.of_val (by rw [ho]; intro c h; cases h) (fun ρ => Instr.indexAt t (ρ x) (ρ y)) (fun ρ => by simp [execOp, ho]) fun E N a hE hS hr => ?_
  have hx := R.eval hE hr x
  have hy := R.eval hE hr y
  unfold aIndexAddr at h
  split at h
  · cases h
  · next i hi =>
    have hu := (hC.T.ok t i hi).1
    split at h
    · next e hd =>
      rw [hd] at hu
      split at h
      · cases h
      · next j hj =>
        split at h
        · next sz nl xs tg k n hex hey =>
          injection h with h; subst h
          rw [hex] at hx; rw [hey] at hy
          rw [hy.int_inv]
          exact (index_sl hE hu (hC.T.ok e j hj) hx hs.1 hs.2.1 hs.2.2).same hS
        · next b off m cap k n hex hey =>
          injection h with h; subst h
          rw [hex] at hx; rw [hey] at hy
          rw [hy.int_inv]
          exact (index_view hE hu (hC.T.ok e j hj) hx hs.1 hs.2).same hS
        · cases h
    · next m e hd =>
      rw [hd] at hu
      split at h
      · cases h
      · next j hj =>
        split at h
        · next b off k n hex hey =>
          injection h with h; subst h
          rw [hex] at hx; rw [hey] at hy
          rw [hy.int_inv]
          exact (index_arr_ptr hE hu (hC.T.ok e j hj) hx hs.1 hs.2).same hS
        · next cs k n hex hey =>
          injection h with h; subst h
          rw [hex] at hx; rw [hey] at hy
          rw [hy.int_inv]
          exact (index_arr_cptr hE hu (hC.T.ok e j hj) hx hs.1 hs.2).same hS
        · cases h
    · cases h

theorem step_index (hC : C.Ok) {t : TypeId} {x y : Operand} (ho : o.op = .index t x y) (h : aIndex C S t (aEval C g x) (aEval C g y) = some out) (hs : out.sd) : OpOk C o g S out.r out.S := by
  refine OpOk.of_val (by rw [ho]; intro c h; cases h) (fun ρ => Instr.index t (ρ x) (ρ y)) (fun ρ => by simp [execOp, ho]) fun E N a hE hS hr => ?_
  have hx := R.eval hE hr x
  have hy := R.eval hE hr y
  unfold aIndex at h
  split at h
  · cases h
  · next i hi =>
    have hu := (hC.T.ok t i hi).1
    split at h
    · next hd =>
      rw [hd] at hu
      split at h
      · next s k n hex hey =>
        injection h with h; subst h
        rw [hex] at hx; rw [hey] at hy
        rw [hy.int_inv]
        exact (index_str hE hu hx hs.1 hs.2).same hS
      · cases h
    · next m e hd =>
      rw [hd] at hu
      split at h
      · cases h
      · next j hj =>
        split at h
        · next cs k n hex hey =>
          injection h with h; subst h
          rw [hex] at hx; rw [hey] at hy
          rw [hy.int_inv]
          exact (index_agg hE hu (hC.T.ok e j hj) hx hs.1 hs.2.1 hs.2.2).same hS
        · cases h
    · cases h

theorem step_fieldAddr (hC : C.Ok) {t : TypeId} {x : Operand} {k : Nat} (ho : o.op = .fieldAddr t x k) (h : aFieldAddr C S t (aEval C g x) k = some out) (hs : out.sd) : OpOk C o g S out.r out.S := by
  refine OpOk.of_val (by rw [ho]; intro c h; cases h) (fun ρ => Instr.fieldAt t (ρ x) k) (fun ρ => by simp [execOp, ho]) fun E N a hE hS hr => ?_
  have hx := R.eval hE hr x
  unfold aFieldAddr at h
  split at h
  · cases h
  · next i hi =>
    split at h
    · cases h
    · next off tf hf =>
      split at h
      · cases h
      · next j hj =>
        split at h
        · next b oo hex =>
          injection h with h; subst h
          rw [hex] at hx
          exact (field_ptr hE (hC.T.ok t i hi) hf (hC.T.ok tf j hj) hs hx).same hS
        · next cs hex =>
          injection h with h; subst h
          rw [hex] at hx
          exact (field_cptr hE (hC.T.ok t i hi) hf (hC.T.ok tf j hj) hs hx).same hS
        · cases h

theorem step_field (hC : C.Ok) {t : TypeId} {x : Operand} {k : Nat} (ho : o.op = .field t x k) (h : aField C S t (aEval C g x) k = some out) (hs : out.sd) : OpOk C o g S out.r out.S := by
  refine OpOk.of_val (by rw [ho]; intro c h; cases h) (fun ρ => Instr.field t (ρ x) k) (fun ρ => by simp [execOp, ho]) fun E N a hE hS hr => ?_
  have hx := R.eval hE hr x
  unfold aField at h
  split at h
  · cases h
  · next i hi =>
    split at h
    · cases h
    · next off tf hf =>
      split at h
      · cases h
      · next j hj =>
        split at h
        · next cs hex =>
          injection h with h; subst h
          rw [hex] at hx
          exact (field_agg hE (hC.T.ok t i hi) hf (hC.T.ok tf j hj) hx hs).same hS
        · cases h

theorem bd_at_none {b : Bd} (h : b = none) (d : Nat) : b.at d = d := by subst h; rfl

theorem slice_view {P : Program} {G : Nat → Option AVal} {E : Env} {t e : TypeId} {i : TI} (hE : Wf G E) (hu : P.underlying t = some (.slice e)) (hi : i.ok P e) {b off n c : Nat} {x : Value}
    (hx : R E (.view b off n c) x) (lo h : Bd) (p1 : lo.pos) (p2 : h.pos) (h1 : lo.at 0 ≤ h.at n) (h2 : h.at n ≤ c) (h3 : lo.at 0 < c ∨ lo.at 0 = 0) :
    ROk G E E.S (.view b (off + lo.at 0 * i.size) (h.at n - lo.at 0) (c - lo.at 0)) ((Instr.sliceAt t x lo.val h.val none).run P E.w) := by
  obtain ⟨_, inf, z, hinf, hs, _, _, _, _, _, _, _⟩ := hi
  cases hx with
  | view _ _ _ _ bb hnc hm hb =>
    have hbd := run_sliceBounds (P := P) true n c lo h none p1 p2 trivial h1 (by simpa [Bd.at] using h2) (by simp [Bd.at]) (by simp) E.w
    by_cases e0 : c = lo.at 0
    · have e1 : lo.at 0 = 0 := by omega
      have e2 : c = 0 := by omega
      subst e2
      refine .pure hE (x := .slice (some ⟨bb, off, none⟩) (h.at n - lo.at 0) 0) ?_ ?_
      · have e3 : h.at n = 0 := by omega
        simp [Instr.sliceAt, Instr.slice, run_underlying hu, show (Instr.sliceBounds true n 0 lo.val h.val none).run P E.w = _ from hbd, Bd.at, run_sizeOf hinf, e1, e3, hs]
        simp [Bd.at] at e1
        simp [e1]
      · rw [e1]
        simp only [Nat.zero_mul, Nat.add_zero, Nat.sub_zero]
        exact .view _ _ _ _ _ h2 hm hb
    · refine .pure hE (x := .slice (some ((⟨bb, off, none⟩ : Addr).add (lo.at 0 * i.size))) (h.at n - lo.at 0) (c - lo.at 0)) ?_ ?_
      · have e4 : ¬ (c = lo.at 0) := e0
        simp [Instr.sliceAt, Instr.slice, run_underlying hu, show (Instr.sliceBounds true n c lo.val h.val none).run P E.w = _ from hbd, run_sizeOf hinf, hs]
        simp only [Bd.at] at e4 ⊢
        simp [e4]
      · rw [add_form _ _ rfl]
        exact .view _ _ _ _ _ (by omega) hm hb

theorem slice_room {P : Program} {G : Nat → Option AVal} {E : Env} {t e : TypeId} {i : TI} (hE : Wf G E) (hu : P.underlying t = some (.slice e)) (hi : i.ok P e) {g n : Nat} {x : Value}
    (hx : R E (.room g i.size e n) x) (h : Bd) (hsome : h.isSome = true) (p2 : h.pos) (h0 : h.at 0 = 0) :
    ROk G E E.S (.sl i.size false [] (.grow g)) ((Instr.sliceAt t x none h.val none).run P E.w) := by
  obtain ⟨_, inf, z, hinf, hs, _, _, _, _, _, _, _⟩ := hi
  cases hx with
  | room _ _ _ _ b c hn hm hr =>
    obtain ⟨hk, rfl⟩ | ⟨k, q, rfl⟩ : False ∧ h = none ∨ ∃ k q, h = some (k, q) := by
      cases h with
      | none => simp at hsome
      | some p => exact .inr ⟨p.1, p.2, rfl⟩
    · exact hk.elim
    have hq : q.toNat = 0 := h0
    have hbd := run_sliceBounds (P := P) true n c none (some (k, q)) none trivial p2 trivial (Nat.zero_le _) (by simp [Bd.at, hq]) (by simp [Bd.at]) (by simp) E.w
    refine .pure hE (x := .slice (some ⟨b, 0, none⟩) 0 c) ?_ ?_
    · have hbd' : (Instr.sliceBounds true n c none (some (Value.int k q)) none).run P E.w = .ok (0, 0, c) E.w := by
        have := hbd
        simp only [Bd.val, Option.map_none, Option.map_some, Bd.at, hq] at this
        exact this
      simp [Instr.sliceAt, Instr.slice, run_underlying hu, Bd.val, hbd', run_sizeOf hinf, hs]
      intro _; rfl
    · refine .sl _ _ _ ⟨b, 0, none⟩ 0 c (fun _ => undef) rfl (Nat.zero_le _) hm (fun j hj => by omega) (fun k h => by simp at h) (fun k h => by simp at h) ?_
      obtain ⟨m, h1, h2⟩ := hr
      refine ⟨m, e, h1, Nat.zero_le _, fun e0 => .inr ?_⟩
      obtain ⟨q1, arr, q2, q3⟩ := h2 e0.symm
      exact ⟨b, arr, q1, rfl, q2, q3⟩

theorem step_slice (hC : C.Ok) {t : TypeId} {x : Operand} {lo hi mx : Option Operand} (ho : o.op = .slice t x lo hi mx)
    (h : aSlice C S t (aEval C g x) (lo.map (aEval C g)) (hi.map (aEval C g)) (mx.map (aEval C g)) = some out) (hs : out.sd) : OpOk C o g S out.r out.S := by
  refine OpOk.of_val (by rw [ho]; intro c h; cases h) (fun ρ => Instr.sliceAt t (ρ x) (lo.map ρ) (hi.map ρ) (mx.map ρ)) (fun ρ => by simp [execOp, ho]) fun E N a hE hS hr => ?_
  have hx := R.eval hE hr x
  have hall := fun y => R.eval hE hr y
  unfold aSlice at h
  split at h
  · next i l hh m hi' hl hh' hm =>
    have hu := (hC.T.ok t i hi').1
    rw [bd_val hl hall, bd_val hh' hall, bd_val hm hall]
    have hmn : mx.map (aEval C g) = none → m = none := fun e => by rw [e] at hm; simp [toBd] at hm; exact hm.symm
    split at h
    · next hd =>
      rw [hd] at hu
      split at h
      · next s hex =>
        injection h with h; subst h
        rw [hex] at hx
        obtain ⟨h0, h1, h2, h3, h4⟩ := hs
        rw [hmn h0]
        exact (slice_str hE hu hx l hh h1 h2 h3 h4).same hS
      · cases h
    · next e hd =>
      rw [hd] at hu
      split at h
      · cases h
      · next j hj =>
        split at h
        · next gg sz q n hex =>
          injection h with h; subst h
          rw [hex] at hx
          obtain ⟨rfl, rfl, rfl, h3, h4, h5, rfl⟩ := hs
          exact (slice_room hE hu (hC.T.ok _ j hj) hx hh h3 h4 h5).same hS
        · next b off n c hex =>
          injection h with h; subst h
          rw [hex] at hx
          obtain ⟨rfl, h1, h2, h3, h4, h5⟩ := hs
          exact (slice_view hE hu (hC.T.ok e j hj) hx l hh h1 h2 h3 h4 h5).same hS
        · next sz nl xs tg hex =>
          injection h with h; subst h
          rw [hex] at hx
          obtain ⟨h0, h1, h2, h3, h4, h5, h6⟩ := hs
          exact (slice_sl hE hu (hC.T.ok e j hj) hx h0 l hh m h1 h2 h3 h4 h5 h6).same hS
        · cases h
    · next n e hd =>
      rw [hd] at hu
      split at h
      · cases h
      · next j hj =>
        split at h
        · next b off hex =>
          injection h with h; subst h
          rw [hex] at hx
          obtain ⟨h0, h1, h2, h3, h4, h5⟩ := hs
          rw [hmn h0]
          exact (slice_arr hE hu (hC.T.ok e j hj) hx l hh h1 h2 h3 h4 h5).same hS
        · next cs hex =>
          injection h with h; subst h
          rw [hex] at hx
          obtain ⟨h0, h1, h2, h3, h4, h5, h6, h7, h8, h9⟩ := hs
          rw [hmn h0]
          exact (slice_carr hE hu (hC.T.ok e j hj) h6 hx h7 h8 h9 l hh h1 h2 h3 h4 h5).same hS
        · cases h
    · cases h
  · cases h

theorem step_convert (hC : C.Ok) {src dst : TypeId} {x : Operand} (ho : o.op = .convert src dst x) (h : aConvert C S src dst (aEval C g x) = some out) (hs : out.sd) : OpOk C o g S out.r out.S := by
  refine OpOk.of_val (by rw [ho]; intro c h; cases h) (fun ρ => convert src dst (ρ x)) (fun ρ => by simp [execOp, ho]) fun E N a hE hS hr => ?_
  have hx := R.eval hE hr x
  unfold aConvert at h
  split at h
  · next i j hi hj =>
    have hu := (hC.T.ok src i hi).1
    have hv := (hC.T.ok dst j hj).1
    split at h
    · next k' k hd1 hd2 =>
      rw [hd1] at hu; rw [hd2] at hv
      split at h
      · next kk n hex =>
        injection h with h; subst h
        rw [hex] at hx
        rw [hx.int_inv]
        refine ROk.same hS (.pure hE (x := .int k (k.wrap n)) ?_ (.int _ _))
        simp [convert, run_underlying hu, run_underlying hv, Conv.intToInt]
      · cases h
    · next hd1 hd2 =>
      rw [hd1] at hu; rw [hd2] at hv
      split at h
      · next s hex =>
        injection h with h; subst h
        rw [hex] at hx
        refine ROk.same hS (.pure hE (x := a.eval x) ?_ hx)
        generalize a.eval x = v at hx
        cases hx with
        | str b _ _ => simp [convert, run_underlying hu, run_underlying hv]
      · cases h
    · next e hd1 hd2 =>
      rw [hd1] at hu; rw [hd2] at hv
      split at h
      · next q hq =>
        split at h
        · next s hex =>
          injection h with h; subst h
          rw [hex] at hx
          have he := (hC.T.ok e q hq).1
          rw [hs.1] at he
          exact (toBytes_str hE hu hv he hx hs.2).same hS
        · cases h
      · cases h
    · next e hd1 hd2 =>
      rw [hd1] at hu; rw [hd2] at hv
      split at h
      · next q hq =>
        split at h
        · next sz nl xs tg hex =>
          injection h with h; subst h
          rw [hex] at hx
          obtain ⟨h1, h2, h3⟩ := hs
          have he := (hC.T.ok e q hq).1
          rw [h1] at he
          subst h2
          rw [h3] at hx
          exact (toString_sl hE hu he hv hx).same hS
        · cases h
      · cases h
    · cases h
  · cases h

theorem run_shift {op : BinOp} (hop : op = .shl ∨ op = .shr) (t : TypeId) (k yk : IntKind) (a b : Int) (hb : 0 ≤ b) (w : World) :
    (binOp op t (.int k a) (.int yk b)).run C.P w = .ok (.int k (match op with | .shl => k.wrap (a * 2 ^ (min b.toNat k.bits)) | _ => a.fdiv (2 ^ (min b.toNat k.bits)))) w := by
  have : ¬ b < 0 := by omega
  rcases hop with rfl | rfl <;> simp [binOp, Op.shift, this]

def nonScalar : Value → Bool
  | .pointer _ | .slice _ _ _ | .map _ | .func _ _ _ | .nilFunc | .iface _ _ | .nilIface | .agg _ | .bool _ => true
  | _ => false

theorem eql_form (t : TypeId) (x y : Value) (h : nonScalar x = true) (h' : nonScalar y = true) : binOp .eql t x y = (do pure (.bool (← Op.equal t x y)) : Sem Value) := by
  cases x <;> simp only [nonScalar, reduceCtorEq] at h <;> cases y <;> simp only [nonScalar, reduceCtorEq] at h' <;> rfl
theorem neq_form (t : TypeId) (x y : Value) (h : nonScalar x = true) (h' : nonScalar y = true) : binOp .neq t x y = (do pure (.bool (!(← Op.equal t x y))) : Sem Value) := by
  cases x <;> simp only [nonScalar, reduceCtorEq] at h <;> cases y <;> simp only [nonScalar, reduceCtorEq] at h' <;> rfl

theorem run_eqls {t : TypeId} {x y : Value} {r : Bool} {w : World} (h : nonScalar x = true) (h' : nonScalar y = true) (he : (Op.equal t x y).run C.P w = .ok r w) :
    (binOp .eql t x y).run C.P w = .ok (.bool r) w ∧ (binOp .neq t x y).run C.P w = .ok (.bool (!r)) w := by
  rw [eql_form t x y h h', neq_form t x y h h', Sem.run_bind, Sem.run_bind, he]
  exact ⟨rfl, rfl⟩

theorem guard_free {op : BinOp} {t : TypeId} {ox oy : Operand} {x y : Value} (w : World) (h : (∀ as bs, ¬ (x = .agg as ∧ y = .agg bs)) ∧ ¬ (x = .nilIface ∧ y = .nilIface)) : (eqGuard op t ox oy x y).run C.P w = .ok () w := by
  cases op <;> first
    | rfl
    | (cases x <;> cases y <;> first | rfl | exact absurd ⟨rfl, rfl⟩ h.2 | exact absurd ⟨rfl, rfl⟩ (h.1 _ _))

theorem run_nil (hC : C.Ok) {E : Env} {i : TI} {t : TypeId} (hi : C.T t = some i) {a b : AVal} {x y : Value} {r : Bool} (h : nilEq a b = some r) (h1 : nilKind i.d a = true) (h2 : nilKind i.d b = true) (hx : R E a x) (hy : R E b y) (w : World) :
    nonScalar x = true ∧ nonScalar y = true ∧ (Op.equal t x y).run C.P w = .ok r w ∧ ((∀ as bs, ¬ (x = .agg as ∧ y = .agg bs)) ∧ ¬ (x = .nilIface ∧ y = .nilIface)) := by
  have hu := (hC.T.ok t i hi).1
  have key : ∀ (x y : Value) (r : Bool), (∀ d : Nat, (Op.equalIn (d + 1) t x y).run C.P w = .ok r w) → (Op.equal t x y).run C.P w = .ok r w := fun x y r h => h 9999
  unfold nilEq at h
  split at h <;> (try cases h) <;> cases hx <;> cases hy <;>
    (refine ⟨rfl, rfl, key _ _ _ fun d => ?_, ⟨fun _ _ hh => (by cases hh.1), fun hh => (by cases hh.1)⟩⟩
     cases hd : i.d <;> simp only [hd, nilKind, reduceCtorEq] at h1 h2 <;> rw [hd] at hu <;>
       (simp only [Op.equalIn, Sem.run_bind, run_underlying hu, Result.andThen_ok]; rfl))

theorem step_bin (hC : C.Ok) {op : BinOp} {t ty : TypeId} {x y : Operand} (ho : o.op = .binOp op t x y ty) (h : aBin C S op t x y (aEval C g x) (aEval C g y) = some out) (hs : out.sd) : OpOk C o g S out.r out.S := by
  refine OpOk.of_val (by rw [ho]; intro c h; cases h) (fun ρ => do eqGuard op t x y (ρ x) (ρ y); binOp op t (ρ x) (ρ y)) (fun ρ => by simp [execOp, ho]) fun E N a hE hS hr => ?_
  have hx := R.eval hE hr x
  have hy := R.eval hE hr y
  generalize a.eval x = vx at hx
  generalize a.eval y = vy at hy
  have fin : ∀ {r : AVal} {z : Value}, (eqGuard op t x y vx vy).run C.P E.w = .ok () E.w → (binOp op t vx vy).run C.P E.w = .ok z E.w → R E r z → ROk C.G E S r ((do eqGuard op t x y vx vy; binOp op t vx vy : Sem Value).run C.P E.w) := by
    intro r z h1 h2 h3
    refine ROk.same hS (.pure (x := z) hE ?_ h3)
    rw [Sem.run_bind, h1]
    exact h2
  unfold aBin at h
  split at h
  · next k av k' b hex hey =>
    injection h with h; subst h
    rw [hex] at hx; rw [hey] at hy
    rw [hx.int_inv, hy.int_inv] at *
    exact fin (guard_free _ ⟨fun _ _ hh => (by cases hh.1), fun hh => (by cases hh.1)⟩) (run_shift (.inl rfl) t k _ _ _ hs _) (.int _ _)
  · next k av k' b hex hey =>
    injection h with h; subst h
    rw [hex] at hx; rw [hey] at hy
    rw [hx.int_inv, hy.int_inv] at *
    exact fin (guard_free _ ⟨fun _ _ hh => (by cases hh.1), fun hh => (by cases hh.1)⟩) (run_shift (.inr rfl) t k _ _ _ hs _) (.int _ _)
  · next k av k' b _ _ hex hey =>
    obtain ⟨⟨sd, r⟩, hb, rfl⟩ := Option.map_eq_some_iff.1 h
    rw [hex] at hx; rw [hey] at hy
    rw [hx.int_inv, hy.int_inv] at *
    obtain ⟨rfl, hsd⟩ := hs
    obtain ⟨z, h1, h2⟩ := run_binOp_int (P := C.P) hb hsd t E.w
    exact fin (guard_free _ ⟨fun _ _ hh => (by cases hh.1), fun hh => (by cases hh.1)⟩) h1 (h2 E)
  · next av b hex hey =>
    obtain ⟨⟨sd, r⟩, hb, rfl⟩ := Option.map_eq_some_iff.1 h
    rw [hex] at hx; rw [hey] at hy
    obtain ⟨z, h1, h2⟩ := run_binOp_str (P := C.P) hb hs hx hy t
    refine fin (guard_free _ ?_) h1 h2
    cases hx; exact ⟨fun _ _ hh => (by cases hh.1), fun hh => (by cases hh.1)⟩
  · next av b hex hey =>
    split at h
    · next i hi =>
      have hu := (hC.T.ok t i hi).1
      rw [hex] at hx; rw [hey] at hy
      rw [hx.bool_inv, hy.bool_inv] at *
      split at h
      · next hd =>
        injection h with h; subst h
        rw [hd] at hu
        exact fin (guard_free _ ⟨fun _ _ hh => (by cases hh.1), fun hh => (by cases hh.1)⟩) (run_eqls rfl rfl (run_equal_bool E.w t _ _ hu)).1 (.bool _)
      · next hd =>
        injection h with h; subst h
        rw [hd] at hu
        exact fin (guard_free _ ⟨fun _ _ hh => (by cases hh.1), fun hh => (by cases hh.1)⟩) (run_eqls rfl rfl (run_equal_bool E.w t _ _ hu)).2 (.bool _)
      · cases h
    · cases h
  · next xs ys hex hey =>
    split at h
    · next i hi =>
      rw [hex] at hx; rw [hey] at hy
      have agg : ∀ (op : BinOp) (h0 : i.isAgg = true) (h1 : flatT C.P C.T 20 t = true) (h2 : C.P.eqGuardType C.P.depth t = false) (h3 : skbs xs i.zero = true) (h4 : skbs ys i.zero = true),
          (eqGuard op t x y vx vy).run C.P E.w = .ok () E.w ∧ (binOp .eql t vx vy).run C.P E.w = .ok (.bool (decide (xs = ys))) E.w ∧ (binOp .neq t vx vy).run C.P E.w = .ok (.bool (!decide (xs = ys))) E.w := by
        intro op h0 h1 h2 h3 h4
        have he := eq_ok hC.T hC.cells 20 t i hi h1 E 9980 xs ys vx vy h3 h4 (by unfold ofCells; rw [if_pos h0]; exact hx) (by unfold ofCells; rw [if_pos h0]; exact hy)
        have he' : (Op.equal t vx vy).run C.P E.w = .ok (decide (xs = ys)) E.w := he
        cases hx with
        | agg _ as _ _ =>
          cases hy with
          | agg _ bs _ _ =>
            exact ⟨run_eqGuard_agg E.w op t x y as bs h2, run_eqls rfl rfl he'⟩
      split at h
      · injection h with h; subst h
        obtain ⟨h0, h1, h2, h3, h4⟩ := hs
        obtain ⟨a1, a2, _⟩ := agg _ h0 h1 h2 h3 h4
        exact fin a1 a2 (.bool _)
      · injection h with h; subst h
        obtain ⟨h0, h1, h2, h3, h4⟩ := hs
        obtain ⟨a1, _, a2⟩ := agg _ h0 h1 h2 h3 h4
        exact fin a1 a2 (.bool _)
      · cases h
    · cases h
  · next hex hey =>
    rw [hex] at hx; rw [hey] at hy
    cases hx; cases hy
    have key : ∀ i m, C.T t = some i → i.d = .interface m → (Op.equal t .nilIface .nilIface).run C.P E.w = .ok true E.w := by
      intro i m hi hd
      have hu := (hC.T.ok t i hi).1
      rw [hd] at hu
      have : ∀ d : Nat, (Op.equalIn (d + 1) t .nilIface .nilIface).run C.P E.w = .ok true E.w := fun d => by
        simp only [Op.equalIn, Sem.run_bind, run_underlying hu, Result.andThen_ok]; rfl
      exact this 9999
    split at h
    · injection h with h; subst h
      obtain ⟨i, m, hi, hd⟩ := hs
      refine fin (z := .bool true) ?_ (run_eqls rfl rfl (key i m hi hd)).1 (.bool _)
      simp [eqGuard]
    · injection h with h; subst h
      obtain ⟨i, m, hi, hd⟩ := hs
      refine fin (z := .bool false) ?_ (run_eqls rfl rfl (key i m hi hd)).2 (.bool _)
      simp [eqGuard]
    · cases h
  · split at h
    · next i hi =>
      split at h
      · injection h with h; subst h
        obtain ⟨n1, n2, n3, n4⟩ := run_nil hC hi ‹nilEq _ _ = some _› hs.1 hs.2 hx hy E.w
        exact fin (guard_free _ n4) (run_eqls n1 n2 n3).1 (.bool _)
      · injection h with h; subst h
        obtain ⟨n1, n2, n3, n4⟩ := run_nil hC hi ‹nilEq _ _ = some _› hs.1 hs.2 hx hy E.w
        exact fin (guard_free _ n4) (run_eqls n1 n2 n3).2 (.bool _)
      · cases h
    · cases h
end
end
end Go.Am
