/- The abstract layer: regions, in the order of the text and in any other. -/
import Derived.Test.YteemcehaekffeaaGreatAmStep
set_option linter.unusedVariables false
set_option linter.unusedSimpArgs false
namespace Go.Am
open Go
noncomputable section
open Classical
def wantedA (ops:Array Oper) (o:Oper) (g:Nat→AVal):Option Bool :=
 match o.guard with
 |none=>some true
 |some (j,want)=>match (ops[j]?).bind (·.dst) with
  |none=>none
  |some d=>match g d with
   |.bool b=>some (b==want)
   |.raw v=>match v with
    |.tuple _=>some false
    |_=>none
   |_=>none
def nought (n:Nat) (ps:Array (Nat × Operand)):Bool :=
 match n,ps.toList with
 |1,[(_,.const (.int .u8 0))]=>true
 |_,_=>false
inductive StepX (C:Cx) (o:Oper) (g:Nat→AVal) (S:St):AVal→St→Prop
 |step (out:Out) (h:aStep C o.op g S=some out) (hs:out.sd):StepX C o g S out.r out.S
 |call (x:Operand) (xs:Array Operand) (ts:Array TypeId) (f:FuncId) (as bs:List AVal) (r:AVal) (S':St) (ho:o.op = .call { callee:=.value x,args:=xs,argTypes:=ts })
   (hf:aEval C g x = .fn (.func f) as bs) (h:CallX C f (as++xs.toList.map (aEval C g)++bs) S r S'):StepX C o g S r S'
 |yield (x:Operand) (xs:Array Operand) (ts:Array TypeId) (i:Nat) (r:AVal) (S':St) (ho:o.op = .call { callee:=.value x,args:=xs,argTypes:=ts })
   (hf:aEval C g x = .yld i) (h:AYield C i (xs.toList.map (aEval C g)) S r S'):StepX C o g S r S'
 |fillA (k:Nat) (t:TypeId) (i:TI) (ho:o.op = .alloc t) (hi:C.T t=some i) (hk:S[k]? = some .hole):StepX C o g S (.ptr k 0) (S.set k (.cells i.zero t))
 |fillM (k:Nat) (t:TypeId) (ho:o.op = .makeMap t none) (hk:S[k]? = some .hole):StepX C o g S (.map k) (S.set k (.mp [] 0))
 |fillX (k:Nat) (t:TypeId) (ho:o.op = .makeMap t none) (hk:S[k]? = some .hole):StepX C o g S (.map k) (S.set k (.mpx [] 0))
 |fillS (k:Nat) (t e:TypeId) (i j:TI) (n m:Int) (ho:o.op = .makeSlice t (.const (.int .i64 n)) (.const (.int .i64 m))) (hi:C.T t=some i) (hd:i.d = .slice e) (hj:C.T e=some j)
   (hb:0≤n∧n≤m∧m≤9223372036854775807∧j.bytes*m.toNat≤140737488355328) (hk:S[k]? = some .hole):StepX C o g S (.view k 0 n.toNat m.toNat) (S.set k (.cells (List.replicate m.toNat j.zero).flatten e))
 |rowS (t e:TypeId) (i j:TI) (m:Int) (ho:o.op = .makeSlice t (.const (.int .i64 0)) (.const (.int .i64 m))) (hi:C.T t=some i) (hd:i.d = .slice e) (hj:C.T e=some j)
   (hb:0≤m∧m≤9223372036854775807∧j.bytes*m.toNat≤140737488355328):StepX C o g S (.sl j.size false [] (.grow S.length)) (S++[.grow 0 j.size e])
 |immS (t e:TypeId) (i j:TI) (m:Int) (ho:o.op = .makeSlice t (.const (.int .i64 m)) (.const (.int .i64 m))) (hi:C.T t=some i) (hd:i.d = .slice e) (hj:C.T e=some j)
   (hb:0≤m∧m≤9223372036854775807∧j.bytes*m.toNat≤140737488355328):StepX C o g S (.sl j.size false (List.replicate m.toNat (ofCells j j.zero)) .full) S
 |boxI (t:TypeId) (x:Operand) (ho:o.op = .box t x) (hs:(aEval C g x).okc):StepX C o g S (.cptr (aEval C g x).cells) S
 |litS (t e:TypeId) (n:Nat) (parts:Array (Nat × Operand)) (i j:TI) (out:List AVal) (ho:o.op = .buildSlice t n parts) (hi:C.T t=some i) (hd:i.d = .slice e) (hj:C.T e=some j)
   (hl:setElems j.size (List.replicate n (ofCells j j.zero)) (parts.toList.map fun p=>(p.1,aEval C g p.2))=some out) (hb:0<j.size∧n*j.size≤16777216∧∀ p∈parts.toList,(aEval C g p.2).okc):StepX C o g S (.sl j.size false out .lit) S
 |litW (t e:TypeId) (n:Nat) (parts:Array (Nat × Operand)) (i j:TI) (out:List AVal) (ho:o.op = .buildSlice t n parts) (hn:nought n parts=true) (hi:C.T t=some i) (hd:i.d = .slice e) (hj:C.T e=some j)
   (hl:setElems j.size (List.replicate n (ofCells j j.zero)) (parts.toList.map fun p=>(p.1,aEval C g p.2))=some out) (hb:0<j.size∧n*j.size≤16777216∧∀ p∈parts.toList,(aEval C g p.2).okc):StepX C o g S (.view S.length 0 n n) (S++[.cells (flatC out) e])
 |appR (x v:Operand) (t tx:TypeId) (out:Out) (ho:o.op = .call { callee:=.builtin .append,args := #[x,v],argTypes := #[t,tx] })
   (h:aAppR C S t tx (aEval C g x) (aEval C g v)=some out∨aAppN C S t tx (aEval C g x) (aEval C g v)=some out) (hs:out.sd):StepX C o g S out.r out.S
def bytesStr (C:Cx) (src dst:TypeId):Bool :=
 match C.T src,C.T dst with
 |some i,some j=>match i.d,j.d with
  |.slice _,.string=>true
  |_,_=>false
 |_,_=>false
def loadBox (C:Cx) (op:Op) (g:Nat→AVal):Option Nat :=
 match op with
 |.load _ a=>match aEval C g a with
  |.ptr b _=>some b
  |_=>none
 |.lookup _ m _ _=>match aEval C g m with
  |.map b=>some b
  |_=>none
 |.convert src dst a=>match aEval C g a with
  |.view b _ _ _=>if bytesStr C src dst=true then some b else none
  |_=>none
 |_=>none
def lenMap (C:Cx) (ts:List TypeId):Bool :=
 match ts with
 |[t]=>match C.T t with
  |some i=>match i.d with
   |.map _ _=>true
   |_=>false
  |none=>false
 |_=>false
def clsB (C:Cx) (b:Builtin) (ts:List TypeId):Nat :=
 match b with
 |.len=>if lenMap C ts=true then 2 else 0
 |.min|.max=>0
 |_=>2
theorem clsB_ne1 (C:Cx) (b:Builtin) (ts:List TypeId):clsB C b ts≠1:=by
 unfold clsB
 split
 ·split<;>decide
 all_goals decide
def constI:Operand→Bool
 |.const (.int .i64 _)=>true
 |_=>false
def cls (C:Cx):Op→Nat
 |.move _|.assign _|.pick _ _ _|.build _ _|.nilCheck _|.binOp _ _ _ _ _|.unOp _ _ _|.sliceToArrayPointer _ _|.makeInterface _ _|.makeFunc _ _ _
 |.slice _ _ _ _ _|.fieldAddr _ _ _|.field _ _ _|.indexAddr _ _ _|.index _ _ _|.extract _ _=>0
 |.convert src dst _=>if bytesStr C src dst then 1 else 0
 |.buildSlice _ n ps=>if nought n ps then 2 else 0
 |.load _ _|.lookup _ _ _ _=>1
 |.alloc _|.makeMap _ _=>3
 |.makeSlice _ l c=>if (constI l&&constI c)=true then 3 else 2
 |.call c=>match c.callee with
  |.builtin b=>clsB C b c.argTypes.toList
  |.value (.func f)=>if C.pc f then 0 else 2
  |_=>2
 |_=>2
abbrev Holes:=List (Nat × ABox)
def fill (S:St):Holes→St
 |[]=>S
 |e::L=>fill (S.set e.1 e.2) L
def inO (a b:Option Nat):Bool :=
 match a,b with
 |none,none=>true
 |some x,some y=>Nat.beq x y
 |_,_=>false
def inU (U:UL) (a b:Option Nat):Bool:=U.any fun e=>inO e.1 a&&inO e.2 b
theorem inO_ok {a b:Option Nat} (h:inO a b=true):a=b:=by
 unfold inO at h
 split at h
 ·rfl
 ·rw [Nat.eq_of_beq_eq_true h]
 ·cases h
theorem inU_ok {U:UL} {a b:Option Nat} (h:inU U a b=true):(a,b)∈U:=by
 unfold inU at h
 obtain ⟨e,he,h⟩:=List.any_eq_true.1 h
 simp only [Bool.and_eq_true] at h
 obtain ⟨x,y⟩:=e
 have h1:=inO_ok h.1
 have h2:=inO_ok h.2
 simp only at h1 h2
 rw [← h1,← h2];exact he
def isIns:Op→Bool
 |.insert _ _ _ _=>true
 |_=>false
def insX (C:Cx) (o:Oper) (g:Nat→AVal) (S:St):Prop :=
 ∃ t m k v b es c,o.op = .insert t m k v∧aEval C g m = .map b∧S[b]? = some (.mpx es c)
theorem isIns_cls {C:Cx} {op:Op} (h:isIns op=true):cls C op=2:=by
 cases op<;>first|rfl|(cases h;done)
abbrev Md:=Option (UL × List (Option Nat × Nat) × Holes)
def BOk (C:Cx) (m:Md) (o:Oper) (g:Nat→AVal) (S:St) (r:AVal) (S':St):Prop :=
 match m with
 |none=>True
 |some (U,B,H)=>(∀ b,loadBox C o.op g=some b→(o.dst,b)∈B)∧(∀ e∈B,(e.1,o.dst)∈U→S'[e.2]? = S[e.2]?) ∧
  (cls C o.op=3→∃ k x,(k,x)∈H∧x ≠ .hole∧S[k]? = some .hole∧S'=S.set k x∧∀ U:St,U[k]? = some .hole→StepX C o g U r (U.set k x)) ∧
  (cls C o.op=2→(∀ e∈H,S'[e.1]? = some .hole→S[e.1]? = some .hole)∧∀ L:Holes,(∀ e∈L,e∈H∧S[e.1]? = some .hole)→StepX C o g (fill S L) r (fill S' L)) ∧
  ((none,none)∈U→isIns o.op=true→insX C o g S)
theorem StepX.of_op {C:Cx} {o o':Oper} {g:Nat→AVal} {S S':St} {r:AVal} (e:o.op=o'.op) (h:StepX C o g S r S'):StepX C o' g S r S':=by
 cases h with
 |step out h hs=>exact .step out (e▸h) hs
 |call x xs ts f as bs r S' ho hf h=>exact .call x xs ts f as bs r S' (e▸ho) hf h
 |yield x xs ts i r S' ho hf h=>exact .yield x xs ts i r S' (e▸ho) hf h
 |fillA k t i ho hi hk=>exact .fillA k t i (e▸ho) hi hk
 |fillM k t ho hk=>exact .fillM k t (e▸ho) hk
 |fillX k t ho hk=>exact .fillX k t (e▸ho) hk
 |fillS k t q i j n m ho hi hd hj hb hk=>exact .fillS k t q i j n m (e▸ho) hi hd hj hb hk
 |rowS t q i j m ho hi hd hj hb=>exact .rowS t q i j m (e▸ho) hi hd hj hb
 |immS t q i j m ho hi hd hj hb=>exact .immS t q i j m (e▸ho) hi hd hj hb
 |boxI t x ho hs=>exact .boxI t x (e▸ho) hs
 |litS t q n parts i j out ho hi hd hj hl hb=>exact .litS t q n parts i j out (e▸ho) hi hd hj hl hb
 |litW t q n parts i j out ho hn hi hd hj hl hb=>exact .litW t q n parts i j out (e▸ho) hn hi hd hj hl hb
 |appR x v t tx out ho h hs=>exact .appR x v t tx out (e▸ho) h hs
theorem BOk.of_op {C:Cx} {m:Md} {o o':Oper} {g:Nat→AVal} {S S':St} {r:AVal} (e:o.op=o'.op) (ed:o.dst=o'.dst) (h:BOk C m o g S r S'):BOk C m o' g S r S':=by
 cases m with
 |none=>trivial
 |some BH =>
  obtain ⟨U,B,H⟩:=BH
  obtain ⟨h1,h2,h3,h4,h5⟩:=h
  rw [e] at h1 h3 h4
  rw [ed] at h1 h2
  refine ⟨h1,h2,fun hc=>?_,fun hc=>⟨(h4 hc).1,fun L hL=>((h4 hc).2 L hL).of_op e⟩,fun hu hi=>?_⟩
  rotate_left
  ·obtain ⟨t,m,k,v,b,es,c,q1,q2,q3⟩:=h5 hu (e▸hi)
   exact ⟨t,m,k,v,b,es,c,e▸q1,q2,q3⟩
  obtain ⟨k,x,e1,e2,e3,e4,e5⟩:=h3 hc
  exact ⟨k,x,e1,e2,e3,e4,fun U hU=>(e5 U hU).of_op e⟩
theorem StepX.ok {C:Cx} (hC:C.Ok) {o:Oper} {g:Nat→AVal} {S S':St} {r:AVal} (h:StepX C o g S r S'):OpOk C o g S r S':=by
 cases h with
 |step out h hs=>exact step_sound hC h hs
 |call x xs ts f as bs r S' ho hf h=>exact OpOk.of_callA ho hf h.1
 |yield x xs ts i r S' ho hf h=>exact OpOk.of_yield ho hf h
 |fillA k t i ho hi hk =>
  refine OpOk.of_val (by rw [ho];intro c h;cases h) (fun _=>Instr.alloc t true (.tuple #[])) (fun ρ=>by simp [execOp,ho]) fun E N a hE hS hr=>?_
  subst hS
  have hit:=hC.T.ok t i hi
  obtain ⟨inf,z,hinf,hz,hl,_,hzr,_⟩:=ofCells_zero hit
  have hkm:k<E.mu.length:=by rw [hE.len];exact (List.getElem?_eq_some_iff.1 hk).1
  obtain ⟨k1,k2⟩:=env_fill hE (w':=E.w.alloc (.cells z.cells t)) (b:=E.w.heap.size) (.cells i.zero t) hk (World.grownBy_alloc E.w _ none) (Nat.le_refl _) (by simp) (fun hext =>
   ⟨E.w.heap.size,z.cells,List.getElem?_set_self hkm,heap_new _ _,hl,fun j hj=>⟨(hzr E j hj).1.ext hE hext,(hzr E j hj).2⟩⟩)
  refine ⟨_,.pointer (some ⟨E.w.heap.size,0,none⟩),?_,k1,k2,rfl,.ptr _ _ _ (List.getElem?_set_self hkm) ⟨_,List.getElem?_set_self (List.getElem?_eq_some_iff.1 hk).1,rfl⟩⟩
  simp [Instr.alloc,zeroValue,typeInfo,hinf,hz,newVar,newRow,newObj,Sem.run]
 |fillM k t ho hk =>
  refine OpOk.of_val (by rw [ho];intro c h;cases h) (fun ρ=>Instr.makeMap t none) (fun ρ=>by simp [execOp,ho]) fun E N a hE hS hr=>?_
  subst hS
  have hkm:k<E.mu.length:=by rw [hE.len];exact (List.getElem?_eq_some_iff.1 hk).1
  obtain ⟨k1,k2⟩:=env_fill hE (w':=E.w.alloc (.map #[] 0)) (b:=E.w.heap.size) (.mp [] 0) hk (World.grownBy_alloc E.w _ none) (Nat.le_refl _) (by simp) (fun hext =>
   ⟨E.w.heap.size,#[],List.getElem?_set_self hkm,heap_new _ _,rfl,fun j h=>by simp at h⟩)
  refine ⟨_,.map (some E.w.heap.size),?_,k1,k2,rfl,.map _ _ (List.getElem?_set_self hkm) ⟨_,List.getElem?_set_self (List.getElem?_eq_some_iff.1 hk).1,rfl⟩⟩
  simp only [Instr.makeMap,Sem.run_bind,Sem.run_pure,Result.andThen_ok,run_newObj_alloc]
 |fillX k t ho hk =>
  refine OpOk.of_val (by rw [ho];intro c h;cases h) (fun ρ=>Instr.makeMap t none) (fun ρ=>by simp [execOp,ho]) fun E N a hE hS hr=>?_
  subst hS
  have hkm:k<E.mu.length:=by rw [hE.len];exact (List.getElem?_eq_some_iff.1 hk).1
  obtain ⟨k1,k2⟩:=env_fill hE (w':=E.w.alloc (.map #[] 0)) (b:=E.w.heap.size) (.mpx [] 0) hk (World.grownBy_alloc E.w _ none) (Nat.le_refl _) (by simp) (fun hext =>
   ⟨[],⟨.nil,.nil,fun e he=>by cases he⟩,E.w.heap.size,#[],List.getElem?_set_self hkm,heap_new _ _,rfl,fun j h=>by simp at h⟩)
  refine ⟨_,.map (some E.w.heap.size),?_,k1,k2,rfl,.map _ _ (List.getElem?_set_self hkm) ⟨_,List.getElem?_set_self (List.getElem?_eq_some_iff.1 hk).1,rfl⟩⟩
  simp only [Instr.makeMap,Sem.run_bind,Sem.run_pure,Result.andThen_ok,run_newObj_alloc]
 |fillS k t e i j n m ho hi hd hj hb hk =>
  refine OpOk.of_val (by rw [ho];intro c h;cases h) (fun ρ=>Instr.makeSlice t (ρ (.const (.int .i64 n))) (ρ (.const (.int .i64 m)))) (fun ρ=>by simp [execOp,ho]) fun E N a hE hS hr=>?_
  subst hS
  have hu:=(hC.T.ok t i hi).1
  rw [hd] at hu
  exact makeSlice_fill hE hu (hC.T.ok e j hj) hb.1 hb.2.1 hb.2.2.1 hb.2.2.2 hk
 |rowS t e i j m ho hi hd hj hb =>
  refine OpOk.of_val (by rw [ho];intro c h;cases h) (fun ρ=>Instr.makeSlice t (ρ (.const (.int .i64 0))) (ρ (.const (.int .i64 m)))) (fun ρ=>by simp [execOp,ho]) fun E N a hE hS hr=>?_
  subst hS
  have hu:=(hC.T.ok t i hi).1
  rw [hd] at hu
  exact makeSlice_row hE hu (hC.T.ok e j hj) hb.1 hb.2.1 hb.2.2
 |immS t e i j m ho hi hd hj hb =>
  refine OpOk.of_val (by rw [ho];intro c h;cases h) (fun ρ=>Instr.makeSlice t (ρ (.const (.int .i64 m))) (ρ (.const (.int .i64 m)))) (fun ρ=>by simp [execOp,ho]) fun E N a hE hS hr=>?_
  subst hS
  have hu:=(hC.T.ok t i hi).1
  rw [hd] at hu
  exact makeSlice_imm hE hu (hC.T.ok e j hj) hb.1 hb.2.1 hb.2.2
 |boxI t x ho hs =>
  refine OpOk.of_val (by rw [ho];intro c h;cases h) (fun ρ=>Instr.box t (ρ x)) (fun ρ=>by simp [execOp,ho]) fun E N a hE hS hr=>?_
  subst hS
  exact box_imm hE (R.eval hE hr x) (okc_fits hs)
 |litS t e n parts i j out ho hi hd hj hl hb =>
  refine OpOk.of_val (by rw [ho];intro c h;cases h) (fun ρ=>Instr.buildSlice t n (parts.map fun (i,x)=>(i,ρ x))) (fun ρ=>by simp [execOp,ho]) fun E N a hE hS hr=>?_
  subst hS
  have hu:=(hC.T.ok t i hi).1
  rw [hd] at hu
  exact buildSlice_ok (.inr rfl) hE hu (hC.T.ok e j hj) hb.1 n hb.2.1 _ _ (by simp) (parts_ok hE hr parts hb.2.2) hl
 |litW t e n parts i j out ho hn hi hd hj hl hb =>
  refine OpOk.of_val (by rw [ho];intro c h;cases h) (fun ρ=>Instr.buildSlice t n (parts.map fun (i,x)=>(i,ρ x))) (fun ρ=>by simp [execOp,ho]) fun E N a hE hS hr=>?_
  subst hS
  have hu:=(hC.T.ok t i hi).1
  rw [hd] at hu
  exact buildSlice_box hE hu (hC.T.ok e j hj) hb.1 n hb.2.1 _ _ (by simp) (parts_ok hE hr parts hb.2.2) hl
 |appR x v t tx out ho h hs=>exact step_appR hC ho h hs
inductive ARun (C:Cx) (ops:Array Oper) (N:Nat) (m:Md):List Oper→(Nat→AVal)→St→(Nat→AVal)→St→Prop
 |nil (g:Nat→AVal) (S:St):ARun C ops N m [] g S g S
 |run (o:Oper) (rest:List Oper) (g:Nat→AVal) (S:St) (r:AVal) (S1:St) (g':Nat→AVal) (S':St) (hw:wantedA ops o g=some true) (hd:∀ k,o.dst=some k→k<N)
   (h:StepX C o g S r S1) (hm:BOk C m o g S r S1) (t:ARun C ops N m rest (upd g o.dst r) S1 g' S'):ARun C ops N m (o::rest) g S g' S'
 |skip (o:Oper) (rest:List Oper) (g:Nat→AVal) (S:St) (g':Nat→AVal) (S':St) (hw:wantedA ops o g=some false) (hd:∀ k,o.dst=some k→k<N)
   (t:ARun C ops N m rest (upd g o.dst (.raw undef)) S g' S'):ARun C ops N m (o::rest) g S g' S'
section
variable {C:Cx} {ops:Array Oper} {N:Nat} {m:Md}
theorem wantedA_ok {E:Env} {g:Nat→AVal} {a:Act} {o:Oper} {b:Bool} (hr:RF E N g a) (h:wantedA ops o g=some b):Region.wanted o (yielded ops a.tmps)=b:=by
 unfold wantedA at h
 unfold Region.wanted
 split at h
 ·next hg=>rw [hg];injection h
 ·next j want hg =>
  rw [hg]
  simp only
  split at h
  ·cases h
  ·next d hd =>
   have hs:=hr.slot d
   split at h
   ·next b' hb =>
    rw [hb] at hs
    have e:=hs.bool_inv
    have hlt:d<a.tmps.size:=by
     rcases Nat.lt_or_ge d a.tmps.size with hh|hh
     ·exact hh
     ·rw [Array.getD_eq_getD_getElem?,Array.getElem?_eq_none hh] at e;cases e
    have e2:a.tmps[d]? = some (.bool b'):=by
     rw [Array.getD_eq_getD_getElem?,Array.getElem?_eq_getElem hlt] at e
     rw [Array.getElem?_eq_getElem hlt];exact congrArg some e
    simp only [yielded,hd,Option.bind_some,e2]
    exact Option.some.inj h
   ·next v hb =>
    rw [hb] at hs
    split at h
    ·next vs =>
     injection h with h
     subst h
     have e:a.tmps.getD d undef = .tuple vs:=by
      generalize a.tmps.getD d undef=z at hs
      cases hs;rfl
     have:yielded ops a.tmps j=none:=by
      simp only [yielded,hd,Option.bind_some]
      rcases hx:a.tmps[d]? with _|z
      ·rfl
      ·have:z = .tuple vs:=by
        rw [Array.getD_eq_getD_getElem?,hx] at e;exact e
       subst this;rfl
     rw [this];rfl
    ·cases h
   ·cases h
theorem ARun.sound (hC:C.Ok) {l:List Oper} {g g':Nat→AVal} {S S':St} (h:ARun C ops N m l g S g' S'):∀ (is:List Nat),(is.map fun i=>ops[i]?)=l.map some→∀ (F:Fence) (n:Nat),FW F →
  ∀ (E:Env) (a:Act),Wf C.G E→E.S=S→RF E N g a→∀ (Q:Exit→Act→World→Prop),(∀ E' a',Ext E E'→Wf C.G E'→E'.S=S'→RF E' N g' a'→Q .normal a' E'.w)→wpOpsIn F n C.P ops Q is a E.w:=by
 induction h with
 |nil g S =>
  intro is his F n hF E a hE hS hr Q hQ
  have:is=[]:=by simpa using his
  subst this
  exact hQ E a (Ext.refl E) hE hS hr
 |run o rest g S r S1 g' S' hw hd h hm t ih =>
  intro is his F n hF E a hE hS hr Q hQ
  match is,his with
  |i::is,his =>
   simp only [List.map_cons,List.cons.injEq] at his
   obtain ⟨hi,his⟩:=his
   simp only [wpOpsIn,hi]
   rw [if_pos (wantedA_ok hr hw)]
   refine h.ok hC F n hF E N a hE hS hr _ _ fun E' x hx hE' hS' hr'=>?_
   exact ih is his F n hF E' _ hE' hS' ((hr.ext hE hx).put hd hr') Q fun E2 a2 k1 k2 k3 k4=>hQ E2 a2 (hx.trans hE k1) k2 k3 k4
 |skip o rest g S g' S' hw hd t ih =>
  intro is his F n hF E a hE hS hr Q hQ
  match is,his with
  |i::is,his =>
   simp only [List.map_cons,List.cons.injEq] at his
   obtain ⟨hi,his⟩:=his
   simp only [wpOpsIn,hi]
   rw [if_neg (by rw [wantedA_ok hr hw];simp)]
   exact ⟨fun f _=>hF.fn f,ih is his F n hF E _ hE hS (hr.put hd (.raw _)) Q hQ⟩
theorem aEval_congr {g g':Nat→AVal} {x:Operand} (h:∀ t,x = .tmp t→g t=g' t):aEval C g x=aEval C g' x:=by
 cases x<;>first|rfl|exact h _ rfl
theorem aStep_congr {op:Op} {g g':Nat→AVal} (S:St) (h:∀ x∈op.operands,aEval C g x=aEval C g' x):aStep C op g S=aStep C op g' S:=by
 cases op<;>try rfl
 case move x=>simp only [aStep,h x (by simp [Op.operands])]
 case assign x=>simp only [aStep,h x (by simp [Op.operands])]
 case pick c a b=>simp only [aStep,h c (by simp [Op.operands]),h a (by simp [Op.operands]),h b (by simp [Op.operands])]
 case box t x=>simp only [aStep,h x (by simp [Op.operands])]
 case build t ps =>
  have hp:∀ p∈ps.toList,aEval C g p.2=aEval C g' p.2:=fun p hp=>h p.2 (by simp only [Op.operands,List.mem_toArray,List.mem_map];exact ⟨p,hp,rfl⟩)
  have e:(ps.toList.map fun p=>(p.1,aEval C g p.2))=(ps.toList.map fun p=>(p.1,aEval C g' p.2)):=List.map_congr_left fun p hm=>by rw [hp p hm]
  have e2:(∀ p∈ps.toList,(aEval C g p.2).okc)=(∀ p∈ps.toList,(aEval C g' p.2).okc):=propext ⟨fun k p hm=>hp p hm▸k p hm,fun k p hm=>(hp p hm).symm▸k p hm⟩
  simp only [aStep,e,e2]
 case buildSlice t n ps =>
  have hp:∀ p∈ps.toList,aEval C g p.2=aEval C g' p.2:=fun p hp=>h p.2 (by simp only [Op.operands,List.mem_toArray,List.mem_map];exact ⟨p,hp,rfl⟩)
  have e:(ps.toList.map fun p=>(p.1,aEval C g p.2))=(ps.toList.map fun p=>(p.1,aEval C g' p.2)):=List.map_congr_left fun p hm=>by rw [hp p hm]
  have e2:(∀ p∈ps.toList,(aEval C g p.2).okc)=(∀ p∈ps.toList,(aEval C g' p.2).okc):=propext ⟨fun k p hm=>hp p hm▸k p hm,fun k p hm=>(hp p hm).symm▸k p hm⟩
  simp only [aStep,e,e2]
 case load t x=>simp only [aStep,h x (by simp [Op.operands])]
 case store t a v=>simp only [aStep,h a (by simp [Op.operands]),h v (by simp [Op.operands])]
 case nilCheck x=>simp only [aStep,h x (by simp [Op.operands])]
 case binOp op t x y ty=>simp only [aStep,h x (by simp [Op.operands]),h y (by simp [Op.operands])]
 case unOp op t x=>simp only [aStep,h x (by simp [Op.operands])]
 case convert s d x=>simp only [aStep,h x (by simp [Op.operands])]
 case sliceToArrayPointer t x=>simp only [aStep,h x (by simp [Op.operands])]
 case makeInterface t x=>simp only [aStep,h x (by simp [Op.operands])]
 case makeFunc f as bs =>
  have e1:as.toList.map (aEval C g)=as.toList.map (aEval C g'):=List.map_congr_left fun x hx=>h x (by simp only [Op.operands,Array.mem_append];exact .inl (Array.mem_toList_iff.1 hx))
  have e2:bs.toList.map (aEval C g)=bs.toList.map (aEval C g'):=List.map_congr_left fun x hx=>h x (by simp only [Op.operands,Array.mem_append];exact .inr (Array.mem_toList_iff.1 hx))
  simp only [aStep,e1,e2]
 case slice t x lo hi mx =>
  have e1:lo.map (aEval C g)=lo.map (aEval C g'):=by cases lo<;>simp only [Option.map_none,Option.map_some];rw [h _ (by simp [Op.operands])]
  have e2:hi.map (aEval C g)=hi.map (aEval C g'):=by cases hi<;>simp only [Option.map_none,Option.map_some];rw [h _ (by simp [Op.operands])]
  have e3:mx.map (aEval C g)=mx.map (aEval C g'):=by cases mx<;>simp only [Option.map_none,Option.map_some];rw [h _ (by simp [Op.operands])]
  simp only [aStep,e1,e2,e3,h x (by simp [Op.operands])]
 case fieldAddr t x k=>simp only [aStep,h x (by simp [Op.operands])]
 case field t x k=>simp only [aStep,h x (by simp [Op.operands])]
 case indexAddr t x y=>simp only [aStep,h x (by simp [Op.operands]),h y (by simp [Op.operands])]
 case index t x y=>simp only [aStep,h x (by simp [Op.operands]),h y (by simp [Op.operands])]
 case extract x k=>simp only [aStep,h x (by simp [Op.operands])]
 case makeMap t r =>
  have e1:r.map (aEval C g)=r.map (aEval C g'):=by cases r<;>simp only [Option.map_none,Option.map_some];rw [h _ (by simp [Op.operands])]
  simp only [aStep,e1]
 case insert t m k x=>simp only [aStep,h m (by simp [Op.operands]),h k (by simp [Op.operands]),h x (by simp [Op.operands])]
 case mapUpdate t m k x=>simp only [aStep,h m (by simp [Op.operands]),h k (by simp [Op.operands]),h x (by simp [Op.operands])]
 case lookup t m k ok=>simp only [aStep,h m (by simp [Op.operands]),h k (by simp [Op.operands])]
 case mapEntry t m k=>simp only [aStep,h m (by simp [Op.operands]),h k (by simp [Op.operands])]
 case entryStore t m k x=>simp only [aStep,h m (by simp [Op.operands]),h k (by simp [Op.operands]),h x (by simp [Op.operands])]
 case range t x=>simp only [aStep,h x (by simp [Op.operands])]
 case entry x=>simp only [aStep,h x (by simp [Op.operands])]
 case next x b=>cases b<;>simp only [aStep,h x (by simp [Op.operands])]
 case makeSlice t l c=>simp only [aStep,h l (by simp [Op.operands]),h c (by simp [Op.operands])]
 case call c =>
  simp only [aStep]
  have e:c.args.toList.map (aEval C g)=c.args.toList.map (aEval C g'):=List.map_congr_left fun x hx=>h x (by simp only [Op.operands,Call.operands,Array.mem_append];exact .inr (Array.mem_toList_iff.1 hx))
  rw [e]
theorem cls0 {op:Op} {g:Nat→AVal} {S:St} {out:Out} (hc:cls C op=0) (h:aStep C op g S=some out) (U:St):out.S=S∧aStep C op g U=some ⟨out.sd,out.r,U⟩:=by
 cases op<;>simp only [cls] at hc<;>try (simp at hc;done)
 case makeSlice t l c=>split at hc<;>cases hc
 case move x=>simp only [aStep,Option.some.injEq] at h ⊢;subst h;exact ⟨rfl,rfl⟩
 case assign x=>simp only [aStep,Option.some.injEq] at h ⊢;subst h;exact ⟨rfl,rfl⟩
 case pick c a b =>
  simp only [aStep] at h ⊢
  split at h
  ·injection h with h;subst h;exact ⟨rfl,rfl⟩
  ·cases h
 case build t ps =>
  simp only [aStep] at h ⊢
  split at h
  ·split at h
   ·injection h with h;subst h;exact ⟨rfl,rfl⟩
   ·cases h
  ·cases h
 case buildSlice t n ps =>
  simp only [aStep] at h ⊢
  split at h
  ·split at h
   ·split at h
    ·split at h
     ·injection h with h;subst h;exact ⟨rfl,rfl⟩
     ·cases h
    ·cases h
   ·cases h
  ·cases h
 case nilCheck x =>
  simp only [aStep] at h ⊢
  split at h<;>first|(cases h;done)|(injection h with h;subst h;exact ⟨rfl,rfl⟩)
 case binOp op t x y ty =>
  simp only [aStep] at h ⊢
  unfold aBin at h ⊢
  split at h
  ·injection h with h;subst h;exact ⟨rfl,rfl⟩
  ·injection h with h;subst h;exact ⟨rfl,rfl⟩
  ·obtain ⟨⟨sd,r⟩,hb,rfl⟩:=Option.map_eq_some_iff.1 h
   refine ⟨rfl,?_⟩
   simp only [hb,Option.map_some]
  ·obtain ⟨⟨sd,r⟩,hb,rfl⟩:=Option.map_eq_some_iff.1 h
   refine ⟨rfl,?_⟩
   simp only [hb,Option.map_some]
  all_goals
   repeat' (split at h)
   all_goals first|(cases h;done)|(injection h with h;subst h;exact ⟨rfl,rfl⟩)
 case unOp op t x =>
  simp only [aStep] at h ⊢
  unfold aUn at h ⊢
  split at h<;>first|(cases h;done)|(injection h with h;subst h;exact ⟨rfl,rfl⟩)
 case convert s d x =>
  have hbs:bytesStr C s d=false:=by
   cases hq:bytesStr C s d
   ·rfl
   ·rw [hq] at hc;simp at hc
  simp only [aStep] at h ⊢
  unfold aConvert at h ⊢
  unfold bytesStr at hbs
  repeat' (split at h)
  all_goals first|(cases h;done)|(cases hbs;done)|(simp_all;done)|(injection h with h;subst h;exact ⟨rfl,rfl⟩)
 case sliceToArrayPointer t x =>
  simp only [aStep] at h ⊢
  repeat' (split at h)
  all_goals first|(cases h;done)|(injection h with h;subst h;exact ⟨rfl,rfl⟩)
 case makeInterface t x=>simp only [aStep,Option.some.injEq] at h ⊢;subst h;exact ⟨rfl,rfl⟩
 case makeFunc f as bs=>simp only [aStep,Option.some.injEq] at h ⊢;subst h;exact ⟨rfl,rfl⟩
 case slice t x lo hi mx =>
  simp only [aStep] at h ⊢
  unfold aSlice at h ⊢
  repeat' (split at h)
  all_goals first|(cases h;done)|(injection h with h;subst h;exact ⟨rfl,rfl⟩)
 case fieldAddr t x k =>
  simp only [aStep] at h ⊢
  unfold aFieldAddr at h ⊢
  repeat' (split at h)
  all_goals first|(cases h;done)|(injection h with h;subst h;exact ⟨rfl,rfl⟩)
 case field t x k =>
  simp only [aStep] at h ⊢
  unfold aField at h ⊢
  repeat' (split at h)
  all_goals first|(cases h;done)|(injection h with h;subst h;exact ⟨rfl,rfl⟩)
 case indexAddr t x y =>
  simp only [aStep] at h ⊢
  unfold aIndexAddr at h ⊢
  repeat' (split at h)
  all_goals first|(cases h;done)|(injection h with h;subst h;exact ⟨rfl,rfl⟩)
 case index t x y =>
  simp only [aStep] at h ⊢
  unfold aIndex at h ⊢
  repeat' (split at h)
  all_goals first|(cases h;done)|(injection h with h;subst h;exact ⟨rfl,rfl⟩)
 case extract x k =>
  simp only [aStep] at h ⊢
  split at h<;>first|(cases h;done)|(injection h with h;subst h;exact ⟨rfl,rfl⟩)
 case call c =>
  simp only [aStep] at h ⊢
  split at h
  ·next b hb =>
   simp only [hb] at hc
   unfold clsB at hc
   split at hc
   ·have hlm:lenMap C c.argTypes.toList=false:=by
     cases h:lenMap C c.argTypes.toList
     ·rfl
     ·rw [h] at hc;simp at hc
    unfold aBuiltin at h ⊢
    split at h
    ·next t x hts _ =>
     unfold aLen at h ⊢
     split at h
     ·cases h
     ·next i hi =>
      split at h
      ·split at h<;>first|(cases h;done)|(injection h with h;subst h;exact ⟨rfl,rfl⟩)
      ·split at h<;>first|(cases h;done)|(injection h with h;subst h;exact ⟨rfl,rfl⟩)
      ·injection h with h;subst h;exact ⟨rfl,rfl⟩
      ·next kt et hd =>
       rw [hts] at hlm
       simp [lenMap,hi,hd] at hlm
      ·cases h
    all_goals first|(cases ‹Builtin.len=_›;done)|(cases h;done)
   ·simp only [aBuiltin] at h ⊢
    obtain ⟨r,h1,rfl⟩:=Option.map_eq_some_iff.1 h
    exact ⟨rfl,by simp only [h1,Option.map_some]⟩
   ·simp only [aBuiltin] at h ⊢
    obtain ⟨r,h1,rfl⟩:=Option.map_eq_some_iff.1 h
    exact ⟨rfl,by simp only [h1,Option.map_some]⟩
   ·cases hc
  ·cases h
theorem cls1 {op:Op} {g:Nat→AVal} {S:St} {out:Out} (hc:cls C op=1) (h:aStep C op g S=some out):out.S=S:=by
 cases op<;>simp only [cls] at hc<;>try (simp at hc;done)
 case makeSlice t l c=>split at hc<;>cases hc
 case buildSlice t n ps=>split at hc<;>cases hc
 case load t x =>
  simp only [aStep] at h
  unfold aLoad at h
  repeat' (split at h)
  all_goals first|(cases h;done)|(injection h with h;subst h;rfl)
 case convert s d x =>
  simp only [aStep] at h
  unfold aConvert at h
  repeat' (split at h)
  all_goals first|(cases h;done)|(injection h with h;subst h;rfl)
 case lookup t x k ok =>
  simp only [aStep] at h
  unfold aLookup at h
  repeat' (split at h)
  all_goals first|(cases h;done)|(injection h with h;subst h;rfl)
 case call c =>
  split at hc
  ·exact absurd hc (clsB_ne1 _ _ _)
  ·split at hc<;>cases hc
  ·cases hc
theorem StepX.frame {o:Oper} {g g':Nat→AVal} {S S':St} {r:AVal} (h:StepX C o g S r S') (hg:∀ x∈o.op.operands,aEval C g x=aEval C g' x):StepX C o g' S r S':=by
 cases h with
 |step out h hs=>exact .step out (by rw [← aStep_congr S hg];exact h) hs
 |call x xs ts f as bs r S' ho hf h =>
  have e1:aEval C g x=aEval C g' x:=hg x (by rw [ho];simp [Op.operands,Call.operands])
  have e2:xs.toList.map (aEval C g)=xs.toList.map (aEval C g'):=List.map_congr_left fun y hy=>hg y (by rw [ho];simp only [Op.operands,Call.operands,Array.mem_append];exact .inr (Array.mem_toList_iff.1 hy))
  exact .call x xs ts f as bs r S' ho (e1▸hf) (by rw [← e2];exact h)
 |yield x xs ts i r S' ho hf h =>
  have e1:aEval C g x=aEval C g' x:=hg x (by rw [ho];simp [Op.operands,Call.operands])
  have e2:xs.toList.map (aEval C g)=xs.toList.map (aEval C g'):=List.map_congr_left fun y hy=>hg y (by rw [ho];simp only [Op.operands,Call.operands,Array.mem_append];exact .inr (Array.mem_toList_iff.1 hy))
  exact .yield x xs ts i r S' ho (e1▸hf) (by rw [← e2];exact h)
 |fillA k t i ho hi hk=>exact .fillA k t i ho hi hk
 |fillM k t ho hk=>exact .fillM k t ho hk
 |fillX k t ho hk=>exact .fillX k t ho hk
 |fillS k t e i j n m ho hi hd hj hb hk=>exact .fillS k t e i j n m ho hi hd hj hb hk
 |rowS t e i j m ho hi hd hj hb=>exact .rowS t e i j m ho hi hd hj hb
 |immS t e i j m ho hi hd hj hb=>exact .immS t e i j m ho hi hd hj hb
 |boxI t x ho hs =>
  have e1:aEval C g x=aEval C g' x:=hg x (by rw [ho];simp [Op.operands])
  rw [e1] at hs ⊢
  exact .boxI t x ho hs
 |litS t e n parts i j out ho hi hd hj hl hb =>
  have hp:∀ p∈parts.toList,aEval C g p.2=aEval C g' p.2:=fun p hp=>hg p.2 (by rw [ho];simp only [Op.operands];exact List.mem_toArray.2 (List.mem_map.2 ⟨p,hp,rfl⟩))
  have e1:(parts.toList.map fun p=>(p.1,aEval C g p.2))=parts.toList.map fun p=>(p.1,aEval C g' p.2):=List.map_congr_left fun p h=>by rw [hp p h]
  exact .litS t e n parts i j out ho hi hd hj (by rw [← e1];exact hl) ⟨hb.1,hb.2.1,fun p h=>by rw [← hp p h];exact hb.2.2 p h⟩
 |litW t e n parts i j out ho hn hi hd hj hl hb =>
  have hp:∀ p∈parts.toList,aEval C g p.2=aEval C g' p.2:=fun p hp=>hg p.2 (by rw [ho];simp only [Op.operands];exact List.mem_toArray.2 (List.mem_map.2 ⟨p,hp,rfl⟩))
  have e1:(parts.toList.map fun p=>(p.1,aEval C g p.2))=parts.toList.map fun p=>(p.1,aEval C g' p.2):=List.map_congr_left fun p h=>by rw [hp p h]
  exact .litW t e n parts i j out ho hn hi hd hj (by rw [← e1];exact hl) ⟨hb.1,hb.2.1,fun p h=>by rw [← hp p h];exact hb.2.2 p h⟩
 |appR x v t tx out ho h hs =>
  have e1:aEval C g x=aEval C g' x:=hg x (by rw [ho];simp [Op.operands,Call.operands])
  have e2:aEval C g v=aEval C g' v:=hg v (by rw [ho];simp [Op.operands,Call.operands])
  exact .appR x v t tx out ho (by rw [← e1,← e2];exact h) hs
theorem StepX.pure {o:Oper} {g:Nat→AVal} {S S':St} {r:AVal} (h:StepX C o g S r S') (hc:cls C o.op=0):S'=S∧∀ U,StepX C o g U r U:=by
 cases h with
 |step out h hs =>
  refine ⟨(cls0 hc h S).1,fun U=>?_⟩
  have:=(cls0 hc h U).2
  exact .step ⟨out.sd,out.r,U⟩ this hs
 |call x xs ts f as bs r S' ho hf h =>
  rw [ho] at hc
  simp only [cls] at hc
  split at hc
  ·cases ‹_=Callee.builtin _›
  ·next f' hx =>
   have hx':x = .func f':=by injection hx
   subst hx'
   simp only [aEval] at hf
   injection hf with hf1 hf2 hf3
   injection hf1 with hf1
   subst hf1
   split at hc
   ·next hp =>
    obtain ⟨e,hall⟩:=h.2 hp
    exact ⟨e,fun U=>.call _ xs ts _ as bs r U ho (by simp only [aEval];rw [← hf2,← hf3]) ⟨hall U,fun _=>⟨rfl,hall⟩⟩⟩
   ·cases hc
  ·cases hc
 |yield x xs ts i r S' ho hf h =>
  rw [ho] at hc
  simp only [cls] at hc
  split at hc
  ·cases ‹_=Callee.builtin _›
  ·next f' hx =>
   have hx':x = .func f':=by injection hx
   subst hx'
   simp [aEval] at hf
  ·cases hc
 |fillA k t i ho hi hk=>simp [ho,cls] at hc
 |fillM k t ho hk=>simp [ho,cls] at hc
 |fillX k t ho hk=>simp [ho,cls] at hc
 |fillS k t e i j n m ho hi hd hj hb hk=>simp [ho,cls,constI] at hc
 |rowS t e i j m ho hi hd hj hb=>simp [ho,cls,constI] at hc
 |immS t e i j m ho hi hd hj hb=>simp [ho,cls,constI] at hc
 |boxI t x ho hs=>simp [ho,cls] at hc
 |litS t e n parts i j out ho hi hd hj hl hb=>exact ⟨rfl,fun U=>.litS t e n parts i j out ho hi hd hj hl hb⟩
 |litW t e n parts i j out ho hn hi hd hj hl hb=>simp [ho,cls,hn] at hc
 |appR x v t tx out ho h hs=>simp [ho,cls,clsB] at hc
theorem StepX.reads {o:Oper} {g:Nat→AVal} {S S':St} {r:AVal} (h:StepX C o g S r S') (hc:cls C o.op=1):S'=S:=by
 cases h with
 |step out h hs=>exact cls1 hc h
 |call x xs ts f as bs r S' ho hf h =>
  rw [ho] at hc
  simp only [cls] at hc
  split at hc
  ·cases ‹_=Callee.builtin _›
  ·split at hc<;>cases hc
  ·cases hc
 |yield x xs ts i r S' ho hf h =>
  rw [ho] at hc
  simp only [cls] at hc
  split at hc
  ·cases ‹_=Callee.builtin _›
  ·split at hc<;>cases hc
  ·cases hc
 |fillA k t i ho hi hk=>simp [ho,cls] at hc
 |fillM k t ho hk=>simp [ho,cls] at hc
 |fillX k t ho hk=>simp [ho,cls] at hc
 |fillS k t e i j n m ho hi hd hj hb hk=>simp [ho,cls,constI] at hc
 |rowS t e i j m ho hi hd hj hb=>simp [ho,cls,constI] at hc
 |immS t e i j m ho hi hd hj hb=>simp [ho,cls,constI] at hc
 |boxI t x ho hs=>simp [ho,cls] at hc
 |litS t e n parts i j out ho hi hd hj hl hb=>simp only [ho,cls] at hc;split at hc<;>cases hc
 |litW t e n parts i j out ho hn hi hd hj hl hb=>simp [ho,cls,hn] at hc
 |appR x v t tx out ho h hs=>simp [ho,cls,clsB] at hc
end
end
end Go.Am
