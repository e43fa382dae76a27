/- The abstract layer: code, loops, functions. -/
import Derived.Test.YteemcehaekffeaaGreatAmMarks
import Derived.RangeFuncIn
set_option linter.unusedVariables false
set_option linter.unusedSimpArgs false
namespace Go.Am
open Go
noncomputable section
open Classical
structure LO where
 d:Option Nat
 op:Op
 gd:Option (Option Nat × Bool)
inductive LC
 |skip
 |reg (id:Nat) (ops:List LO)
 |nxt (d:Option Nat) (it:Operand) (ops:List LO)
 |rangeFn (f:Operand) (ps:Array Nat) (asg body:Code)
 |seq (a b:LC)
 |cond (c:Operand) (a b:LC)
 |block (id:Nat) (a:LC)
 |loop (a:LC)
 |exit (id:Nat)
 |ret
 |scope (a:LC)
 |other (c:Code)
def liteO (ops:Array Oper) (o:Oper):LO:=⟨o.dst,o.op,o.guard.map fun p=>((ops[p.1]?).bind (·.dst),p.2)⟩
def nextOf (draw:Bool):List Oper→Option (Option Nat × Operand × List Oper)
 |[]=>none
 |o::rest=>match o.op with
  |.next it false=>if !draw&&o.guard.isNone then some (o.dst,it,rest) else none
  |_=>none
def lite:Code→LC
 |.skip=>.skip
 |.region id ops draw=>match nextOf draw ops.toList with
  |some (d,it,rest)=>.nxt d it (rest.map (liteO ops))
  |none=>.reg id (ops.toList.map (liteO ops))
 |.rangeFunc f ps asg body=>.rangeFn f ps asg body
 |.seq a b=>.seq (lite a) (lite b)
 |.cond c a b=>.cond c (lite a) (lite b)
 |.block id a=>.block id (lite a)
 |.loop a=>.loop (lite a)
 |.exit id=>.exit id
 |.ret=>.ret
 |.label _=>.skip
 |.scope a=>.scope (lite a)
 |c=>.other c
def dstB (N:Nat) (o:Oper):Bool:=match o.dst with|some k=>decide (k<N)|none=>true
def noRF:Code→Bool
 |.seq a b=>noRF a&&noRF b
 |.cond _ a b=>noRF a&&noRF b
 |.block _ a=>noRF a
 |.loop a=>noRF a
 |.scope a=>noRF a
 |.rangeFunc _ _ _ _=>false
 |_=>true
def entF:List Oper→Bool
 |o::_=>match o.op with
  |.entry _=>true
  |_=>false
 |[]=>false
def codeOk (C:Cx) (N:Nat):Code→Bool
 |.region id ops draw=>(ops.toList.all (dstB N)&&(!draw||okR C (C.bm id) ops))&&(!draw || !entF ops.toList)
 |.rangeFunc _ _ a b=>codeOk C N a&&codeOk C N b&&noRF a&&noRF b
 |.seq a b=>codeOk C N a&&codeOk C N b
 |.cond _ a b=>codeOk C N a&&codeOk C N b
 |.block _ a=>codeOk C N a
 |.loop a=>codeOk C N a
 |.scope a=>codeOk C N a
 |_=>true
def wantL (gd:Option (Option Nat × Bool)) (fr:Fr):Option Bool :=
 match gd with
 |none=>some true
 |some (none,_)=>none
 |some (some d,want)=>match fr.get d with
  |.bool b=>some (b==want)
  |.raw v=>match v with
   |.tuple _=>some false
   |_=>none
  |_=>none
def aOpK (C:Cx) (op:Op) (fr:Fr) (S:St) (K:AVal→St→Prop):Prop :=
 ((∃ t x,op = .box t x∧(aEval C fr.get x).okc∧K (.cptr (aEval C fr.get x).cells) S) ∨
  (∃ t e i j m,op = .makeSlice t (.const (.int .i64 0)) (.const (.int .i64 m))∧C.T t=some i∧i.d = .slice e∧C.T e=some j∧(0≤m∧m≤9223372036854775807∧j.bytes*m.toNat≤140737488355328) ∧
   K (.sl j.size false [] (.grow S.length)) (S++[.grow 0 j.size e])) ∨
  (∃ t e i j m,op = .makeSlice t (.const (.int .i64 m)) (.const (.int .i64 m))∧C.T t=some i∧i.d = .slice e∧C.T e=some j∧(0≤m∧m≤9223372036854775807∧j.bytes*m.toNat≤140737488355328) ∧
   K (.sl j.size false (List.replicate m.toNat (ofCells j j.zero)) .full) S) ∨
  (∃ t e n parts i j out,op = .buildSlice t n parts∧C.T t=some i∧i.d = .slice e∧C.T e=some j∧setElems j.size (List.replicate n (ofCells j j.zero)) (parts.toList.map fun p=>(p.1,aEval C fr.get p.2))=some out ∧
   (0<j.size∧n*j.size≤16777216∧∀ p∈parts.toList,(aEval C fr.get p.2).okc)∧K (.sl j.size false out .lit) S)) ∨
 ((∃ k t i,op = .alloc t∧C.T t=some i∧S[k]? = some .hole∧K (.ptr k 0) (S.set k (.cells i.zero t))) ∨
  (∃ x v t tx out,op = .call { callee:=.builtin .append,args := #[x,v],argTypes := #[t,tx] }∧(aAppR C S t tx (aEval C fr.get x) (aEval C fr.get v)=some out∨aAppN C S t tx (aEval C fr.get x) (aEval C fr.get v)=some out)∧out.sd∧K out.r out.S) ∨
 (∃ t e n parts i j out,op = .buildSlice t n parts∧nought n parts=true∧C.T t=some i∧i.d = .slice e∧C.T e=some j∧setElems j.size (List.replicate n (ofCells j j.zero)) (parts.toList.map fun p=>(p.1,aEval C fr.get p.2))=some out ∧
   (0<j.size∧n*j.size≤16777216∧∀ p∈parts.toList,(aEval C fr.get p.2).okc)∧K (.view S.length 0 n n) (S++[.cells (flatC out) e])) ∨
  (∃ k t,op = .makeMap t none∧S[k]? = some .hole∧K (.map k) (S.set k (.mp [] 0)))) ∨
 match op with
 |.call ⟨.value x,xs,_⟩=>match aEval C fr.get x with
  |.fn (.func f) as bs=>∃ r S',CallX C f (as++xs.toList.map (aEval C fr.get)++bs) S r S'∧K r S'
  |.yld i=>∃ r S',AYield C i (xs.toList.map (aEval C fr.get)) S r S'∧K r S'
  |_=>False
 |op=>match aStep C op fr.get S with
  |some out=>out.sd∧K out.r out.S
  |none=>False
def bare (op:Op) (d:Option Nat):Oper:={ (default:Oper) with op:=op,dst:=d }
def aL (C:Cx) (m:Md):List LO→(Fr→St→Prop)→Fr→St→Prop
 |[],Q,fr,S=>Q fr S
 |o::rest,Q,fr,S=>match wantL o.gd fr with
  |none=>False
  |some w=>if w=true then aOpK C o.op fr S (fun r S'=>BOk C m (bare o.op o.d) fr.get S r S'∧aL C m rest Q (fr.put o.d r) S') else aL C m rest Q (fr.put o.d (.raw undef)) S
abbrev Post:=Exit→Fr→St→Prop
def thenQ (K:Fr→St→Prop) (Q:Post):Post
 |.normal=>K
 |e=>Q e
def blockQ (id:Nat) (Q:Post):Post
 |.exit i=>if i=id then Q .normal else Q (.exit i)
 |e=>Q e
def scopeQ (Q:Post):Post
 |.goto _=>fun _ _=>False
 |e=>Q e
theorem stepR_scope {P:Program} {b:Frame} {a:Act} {k:List Item} {cs:List Frame} {w:World} {c:Code}:step P (lone (b.atR a (.code (.scope c)::k)) cs w) = .next (lone (b.atR a (.code c :: .inScope c::k)) cs w) :=
 step_lone_go (by simp [stepG,stepG.exec,Frame.atR])
theorem stepR_inScope {P:Program} {b:Frame} {a:Act} {k:List Item} {cs:List Frame} {w:World} {c:Code}:step P (lone (b.atR a (.inScope c::k)) cs w) = .next (lone (b.atR a k) cs w) :=
 step_lone_go (by simp [stepG,stepG.exec,Frame.atR])
theorem wpIn_scope {F:Fence} {n:Nat} {P:Program} {Q:Exit→Act→World→Prop} {a:Act} {w:World} {c:Code} (h:c.wpIn F n P (Exit.noGoto Q) a w):(Code.scope c).wpIn F n P Q a w:=by
 intro b k cs hro hb hr
 have h0:(lone (b.atR a (.code (.scope c)::k)) cs w).fenced P F:=fenced_calm hb hr rfl
 obtain ⟨e,a₁,w₁,hq,harr⟩:=h b (.inScope c::k) cs hro hb hr
 cases e with
 |normal=>exact ⟨.normal,a₁,w₁,hq,.head h0 stepR_scope (StepsIn.trans harr (.one (fenced_calm hb hr rfl) stepR_inScope))⟩
 |exit id' =>
  have hx:exitTo id' (.inScope c::k)=exitTo id' k:=by simp [exitTo]
  exact ⟨.exit id',a₁,w₁,hq,fun k' hk=>.head h0 stepR_scope (harr.1 k' (by rw [hx];exact hk)),
   fun hr' hk=>let ⟨k₁,h1,h2⟩:=harr.2 hr' (by rw [hx];exact hk);⟨k₁,h1,.head h0 stepR_scope h2⟩⟩
 |goto l=>exact hq.elim
 |ret=>exact ⟨_,a₁,w₁,hq,.of_steps (.one h0 stepR_scope) harr⟩
 |panic ch=>exact ⟨_,a₁,w₁,hq,.of_steps (.one h0 stepR_scope) harr⟩
 |outgrown=>exact ⟨_,a₁,w₁,hq,.of_steps (.one h0 stepR_scope) harr⟩
def AWp (C:Cx) (N:Nat) (c:Code) (Q:Post) (fr:Fr) (S:St):Prop :=
 ∀ (F:Fence) (n:Nat),FW F→(F.round=none∨noRF c=true)→∀ (E:Env) (a:Act),Wf C.G E→E.S=S→RF E N fr.get a →
  c.wpIn F n C.P (fun e a' w'=>∃ E' fr',E'.w=w'∧Wf C.G E'∧Ext E E'∧RF E' N fr'.get a'∧Q e fr' E'.S) a E.w
def ALoop (C:Cx) (N:Nat) (l:LC) (Q:Post) (fr:Fr) (S:St):Prop:=∀ c,lite c=l→codeOk C N c=true→AWp C N (.loop c) Q fr S
def pendQ (Q:Post):Option Code→Fr→St→Prop
 |none=>Q .normal
 |some c=>match c with
  |.ret=>Q .ret
  |.exit id=>Q (.exit id)
  |_=>fun _ _=>False
def aC (C:Cx) (N:Nat):LC→Post→Fr→St→Prop
 |.skip,Q=>Q .normal
 |.reg id ops,Q=>fun fr S=>match C.bm id with
  |some U=>∃ B H n,aL C (some (U,B,H)) ops (Q .normal) fr (S++List.replicate n .hole)
  |none=>aL C none ops (Q .normal) fr S
 |.nxt d it ops,Q=>fun fr S=>aNext (aEval C fr.get it) S fun v S'=>(∀ k,d=some k→k<N)∧aL C none ops (Q .normal) (fr.put d v) S'
 |.rangeFn f ps asg body,Q=>fun fr S=>match aEval C fr.get f with
  |.fn (.func g) as bs=>∃ tag r S2 fr' N' ps' asg' body' st pend tag',ACall C g (as++[.yld S.length]++bs) (S++[.loop fr N ps.toList asg body .ready none tag]) r S2 ∧
    S2[S.length]? = some (.loop fr' N' ps' asg' body' st pend tag')∧st ≠ .busy ∧
    pendQ Q pend fr (S2.set S.length (.loop fr' N' ps' asg' body' .exhausted pend tag'))
  |_=>False
 |.seq a b,Q=>aC C N a (thenQ (aC C N b Q) Q)
 |.cond c a b,Q=>fun fr S=>match aEval C fr.get c with
  |.bool t=>if t=true then aC C N a Q fr S else aC C N b Q fr S
  |_=>False
 |.block id a,Q=>aC C N a (blockQ id Q)
 |.loop a,Q=>ALoop C N a Q
 |.scope a,Q=>aC C N a (scopeQ Q)
 |.exit id,Q=>Q (.exit id)
 |.ret,Q=>Q .ret
 |.other c,Q=>AWp C N c Q
section
variable {C:Cx} {N:Nat}
theorem aOpK_step {o:Oper} {fr:Fr} {S:St} {K:AVal→St→Prop} (h:aOpK C o.op fr S K):∃ r S',StepX C o fr.get S r S'∧K r S':=by
 unfold aOpK at h
 rcases h with (⟨t,x,ho,hs,hk⟩|⟨t,e,i,j,m,ho,hi,hd,hj,hb,hk⟩|⟨t,e,i,j,m,ho,hi,hd,hj,hb,hk⟩|⟨t,e,n,parts,i,j,out,ho,hi,hd,hj,hl,hb,hk⟩)|(⟨k,t,i,ho,hi,hs,hk⟩|⟨x,v,t,tx,out,ho,hh,hs,hk⟩|⟨t,e,n,parts,i,j,out,ho,hn,hi,hd,hj,hl,hb,hk⟩|⟨k,t,ho,hs,hk⟩)|h
 ·exact ⟨_,_,.boxI t x ho hs,hk⟩
 ·exact ⟨_,_,.rowS t e i j m ho hi hd hj hb,hk⟩
 ·exact ⟨_,_,.immS t e i j m ho hi hd hj hb,hk⟩
 ·exact ⟨_,_,.litS t e n parts i j out ho hi hd hj hl hb,hk⟩
 ·exact ⟨_,_,.fillA k t i ho hi hs,hk⟩
 ·exact ⟨_,_,.appR x v t tx out ho hh hs,hk⟩
 ·exact ⟨_,_,.litW t e n parts i j out ho hn hi hd hj hl hb,hk⟩
 ·exact ⟨_,_,.fillM k t ho hs,hk⟩
 split at h
 ·next x xs ts ho =>
  split at h
  ·next f as bs hf =>
   obtain ⟨r,S',hx,hk⟩:=h
   exact ⟨r,S',.call x xs ts f as bs r S' ho hf hx,hk⟩
  ·next i hf =>
   obtain ⟨r,S',hx,hk⟩:=h
   exact ⟨r,S',.yield x xs ts i r S' ho hf hx,hk⟩
  ·exact h.elim
 ·split at h
  ·next out ho=>exact ⟨out.r,out.S,.step out ho h.1,h.2⟩
  ·exact h.elim
theorem wantL_eq {ops:Array Oper} {o:Oper} {fr:Fr}:wantL (liteO ops o).gd fr=wantedA ops o fr.get:=by
 unfold wantL wantedA liteO
 cases o.guard with
 |none=>rfl
 |some p =>
  obtain ⟨j,w⟩:=p
  simp only [Option.map_some]
  cases (ops[j]?).bind (·.dst) with
  |none=>rfl
  |some d=>rfl
theorem aL_run {ops:Array Oper} {m:Md} {Q:Fr→St→Prop}:∀ (l:List Oper) (fr:Fr) (S:St),(∀ o∈l,dstB N o=true)→aL C m (l.map (liteO ops)) Q fr S→∃ fr' S',ARun C ops N m l fr.get S fr'.get S'∧Q fr' S':=by
 intro l
 induction l with
 |nil=>intro fr S _ h;exact ⟨fr,S,.nil _ _,h⟩
 |cons o l ih =>
  intro fr S hd h
  simp only [List.map_cons,aL] at h
  rw [wantL_eq] at h
  have hdo:∀ k,o.dst=some k→k<N:=fun k hk=>by
   have:=hd o (List.mem_cons_self ..)
   simp only [dstB,hk,decide_eq_true_eq] at this
   exact this
  have hd':∀ o∈l,dstB N o=true:=fun o ho=>hd o (List.mem_cons_of_mem _ ho)
  split at h
  ·exact h.elim
  ·next w hw =>
   split at h
   ·next e =>
    subst e
    obtain ⟨r,S1,hx,hb,hk⟩:=aOpK_step (o:=o) h
    obtain ⟨fr',S',hrun,hq⟩:=ih _ _ hd' hk
    rw [Fr.get_put] at hrun
    exact ⟨fr',S',.run o l _ S r S1 _ _ hw hdo hx (BOk.of_op (o:=bare o.op o.dst) rfl rfl hb) hrun,hq⟩
   ·next e =>
    have e':w=false:=by simpa using e
    subst e'
    obtain ⟨fr',S',hrun,hq⟩:=ih _ _ hd' h
    rw [Fr.get_put] at hrun
    exact ⟨fr',S',.skip o l _ S _ _ hw hdo hrun,hq⟩
theorem AWp.mono {c:Code} {Q Q':Post} {fr:Fr} {S:St} (h:AWp C N c Q fr S) (hq:∀ e fr S,Q e fr S→Q' e fr S):AWp C N c Q' fr S :=
 fun F n hF hro E a hE hS hr=>wpIn_mono (h F n hF hro E a hE hS hr) fun _ _ _ ⟨E',fr',h1,h2,h3,h4,h5⟩=>⟨E',fr',h1,h2,h3,h4,hq _ _ _ h5⟩
theorem nextOf_some {draw:Bool} {l:List Oper} {d:Option Nat} {it:Operand} {rest:List Oper} (h:nextOf draw l=some (d,it,rest)):draw=false∧∃ o,l=o::rest∧o.op = .next it false∧o.guard=none∧o.dst=d:=by
 cases l with
 |nil=>simp [nextOf] at h
 |cons o l =>
  simp only [nextOf] at h
  split at h
  ·next it' ho =>
   split at h
   ·next hg =>
    simp only [Bool.and_eq_true,Bool.not_eq_true',Option.isNone_iff_eq_none] at hg
    injection h with h
    simp only [Prod.mk.injEq] at h
    obtain ⟨rfl,rfl,rfl⟩:=h
    exact ⟨hg.1,o,rfl,ho,hg.2,rfl⟩
   ·cases h
  ·cases h
theorem range_tail (ops:Array Oper) (o:Oper) (rest:List Oper) (h:ops.toList=o::rest):∃ is,List.range ops.size=0::is∧ops[0]? = some o∧(is.map fun i=>ops[i]?)=rest.map some:=by
 have hs:ops.size=rest.length+1:=by rw [← Array.length_toList,h];rfl
 refine ⟨(List.range rest.length).map Nat.succ,by rw [hs,List.range_succ_eq_map],?_,?_⟩
 ·rw [← Array.getElem?_toList,h];rfl
 ·apply List.ext_getElem (by simp)
  intro i h1 h2
  simp only [List.map_map,List.getElem_map,List.getElem_range,Function.comp_apply]
  rw [← Array.getElem?_toList,h,Nat.succ_eq_add_one,List.getElem?_cons_succ]
  simp
theorem nxt_sound (hC:C.Ok) {id:Nat} {ops:Array Oper} {d:Option Nat} {it:Operand} {rest:List Oper} {Q:Post} {fr:Fr} {S:St} (h1:nextOf false ops.toList=some (d,it,rest)) (hok:∀ o∈ops.toList,dstB N o=true)
  (h:aNext (aEval C fr.get it) S fun v S'=>(∀ k,d=some k→k<N)∧aL C none (rest.map (liteO ops)) (Q .normal) (fr.put d v) S'):AWp C N (.region id ops false) Q fr S:=by
 intro F n hF hro E a hE hS hr
 obtain ⟨_,o,hl,ho,hg,hd⟩:=nextOf_some h1
 obtain ⟨is,e1,e2,e3⟩:=range_tail ops o rest hl
 refine wpIn_region ?_
 rw [e1]
 simp only [wpOpsIn,e2]
 rw [if_pos (by simp [Region.wanted,hg])]
 refine ⟨fun f _=>hF.fn f,?_⟩
 rw [Oper.semAt_eq _ _ _ (by rw [ho];intro c h;cases h)]
 subst hS
 obtain ⟨v,y,E',r1,r2,r3,r4,r5,r6⟩:=next_ok (P:=C.P) hE (R.eval hE hr it) h o.type
 have hrun:(execOp a.eval o).run C.P E.w = .ok (.value y) E'.w:=by
  simp only [execOp,ho,Sem.run_bind,r1,Result.andThen_ok,Sem.run_pure]
 rw [hrun,Oper.uponIn_value,hd]
 obtain ⟨fr',S',hrun',hq⟩:=aL_run (N:=N) (ops:=ops) rest _ _ (fun o ho=>hok o (by rw [hl];exact List.mem_cons_of_mem _ ho)) r6
 rw [Fr.get_put] at hrun'
 exact hrun'.sound hC is e3 F n hF E' _ r3 rfl ((hr.ext hE r2).put r5 r4) _ fun E2 a2 k1 k2 k3 k4=>⟨E2,fr',rfl,k2,r2.trans hE k1,k4,by rw [k3];exact hq⟩
theorem Marks.push {G:Nat→Option AVal} {E E':Env} {ds:List Deferred} (k:Marks E ds) (h:Ext E E') (hf:E'.free E.w.heap.size) (hb:E'.w.heap[E.w.heap.size]? = some (.deferred (some []))) :
  Marks E' (markOf E.w.heap.size::ds):=by
 obtain ⟨h0,rs,h1,h2,h3⟩:=k
 obtain ⟨h0',rs',h1',h2',h3'⟩:=Marks.ext h ⟨h0,rs,h1,h2,h3⟩
 refine ⟨h0',E.w.heap.size::rs,by simp [h1],?_,fun r hr=>?_⟩
 ·rw [List.nodup_cons]
  exact ⟨fun hm=>absurd (heap_lt (h3 _ hm).2.2) (by omega),h2⟩
 ·rcases List.mem_cons.1 hr with rfl|hr
  ·exact ⟨by rw [h.act];exact h0,hf,hb⟩
  ·obtain ⟨a,b,c⟩:=h3 r hr
   obtain ⟨f,e⟩:=h.free r (heap_lt c) b
   exact ⟨by rw [h.act];exact a,f,e.other c (fun _ _ _ h=>by cases h)⟩
theorem yield_args {E1:Env} {as bs:List AVal} {avs bvs:Array Value} {i l:Nat} (l1:avs.size=as.length) (l2:bvs.size=bs.length)
  (rx:∀ j (h:j<as.length),R E1 as[j] (avs.getD j undef)) (ry:∀ j (h:j<bs.length),R E1 bs[j] (bvs.getD j undef)) (hy:R E1 (.yld i) (Value.func (.yield l) #[] #[])) :
  ∀ j (h:j<(as++[AVal.yld i]++bs).length),R E1 ((as++[AVal.yld i]++bs)[j]) ((avs ++ #[Value.func (.yield l) #[] #[]]++bvs).getD j undef):=by
 intro j hj
 simp only [List.length_append,List.length_cons,List.length_nil] at hj
 simp only [Array.getD_eq_getD_getElem?]
 by_cases j1:j<as.length
 ·rw [Array.getElem?_append_left (by simp;omega),Array.getElem?_append_left (by omega)]
  rw [List.getElem_append_left (by simp;omega),List.getElem_append_left j1]
  have:=rx j j1
  rwa [Array.getD_eq_getD_getElem?] at this
 ·by_cases j2:j<as.length+1
  ·have e:j=as.length:=by omega
   subst e
   rw [Array.getElem?_append_left (by simp;omega),Array.getElem?_append_right (by omega)]
   rw [List.getElem_append_left (by simp),List.getElem_append_right (by omega)]
   simp only [l1,Nat.sub_self,List.getElem_cons_zero]
   exact hy
  ·rw [Array.getElem?_append_right (by simp;omega)]
   rw [List.getElem_append_right (by simp;omega)]
   have hlt:j-(as.length+1)<bs.length:=by omega
   have:=ry _ hlt
   rw [Array.getD_eq_getD_getElem?] at this
   simpa [l1] using this
theorem rangeFn_post {C:Cx} {N:Nat} {F:Fence} {n:Nat} {E E1 E2:Env} {fr fr1:Fr} {N1 tag:Nat} {ps:List Nat} {asg body:Code} {st:LoopState} {pend:Option Code} {Q:Post} {a':Act} {S2:St} {l:Nat} {v2:Value} {i:Nat} (hE:Wf C.G E) (x1:Ext E E1) (w1:Wf C.G E1)
  (hrf1:RF E1 N fr.get a') (hE1m:E1.mu[i]? = some (some l)) (hS1:∃ x:ABox,E1.S[i]? = some x∧x.isGrow=false) (k2:Wf C.G E2) (k3:Ext E1 E2) (k4:E2.S=S2)
  (hS2:S2[i]? = some (.loop fr1 N1 ps asg body st pend tag)) (hst:st ≠ .busy)
  (hq:pendQ Q pend fr (S2.set i (.loop fr1 N1 ps asg body .exhausted pend tag))) :
  rangePost F n C.P l (fun e a' w'=>∃ E' fr',E'.w=w'∧Wf C.G E'∧Ext E E'∧RF E' N fr'.get a'∧Q e fr' E'.S) a' (.returned v2) E2.w:=by
 obtain ⟨b2,r2,m1,m2,m3,m4,m5,m6,m7,m8,m9⟩:=k2.entry i _ (by rw [k4];exact hS2)
 have eb:b2=l:=by
  obtain ⟨x,hx,hg⟩:=hS1
  have:=(k3.box i _ hx hg).1
  rw [m1] at this
  have h2:some (some b2)=some (some l):=this.trans hE1m
  injection h2 with h2;injection h2
 subst eb
 have hend:(Instr.endLoop b2).run C.P E2.w = .ok pend (E2.w.putObj b2 (.loop { r2 with state:=.exhausted })):=(run_endLoop (P:=C.P) m2 (by rw [m6];exact hst)).trans (by rw [← m7])
 obtain ⟨x3,w3⟩:=env_set k2 m1 (grownBy_putObj' E2.w b2 (.loop { r2 with state:=.exhausted })) _ (.loop fr1 N1 ps asg body .exhausted pend tag) (by rw [k4];exact hS2) rfl rfl
  (fun hext=>⟨b2,{ r2 with state:=.exhausted },m1,World.putObj_heap_same (heap_lt m2),m3,m4,m5,rfl,m7,m8,fun t=>(m9 t).ext k2 hext⟩)
 have xall:=(x1.trans hE k3).trans hE x3
 have hrf3:=(hrf1.ext w1 k3).ext k2 x3
 refine ⟨pend,_,hend,?_⟩
 rw [← k4] at hq
 cases pend with
 |none=>exact ⟨_,fr,rfl,w3,xall,hrf3,hq⟩
 |some c =>
  simp only [pendQ] at hq ⊢
  split at hq
  ·exact wpIn_ret ⟨_,fr,rfl,w3,xall,hrf3,hq⟩
  ·exact wpIn_exit ⟨_,fr,rfl,w3,xall,hrf3,hq⟩
  ·exact hq.elim
set_option maxHeartbeats 1000000 in
theorem rangeFn_sound {f:Operand} {ps:Array Nat} {asg body:Code} {Q:Post} {fr:Fr} {S:St} (h:aC C N (.rangeFn f ps asg body) Q fr S):AWp C N (.rangeFunc f ps asg body) Q fr S:=by
 intro F n hF hro E a hE hS hr
 have hro:F.round=none:=by
  rcases hro with h|h
  ·exact h
  ·simp [noRF] at h
 subst hS
 simp only [aC] at h
 split at h
 ·next g as bs hf =>
  obtain ⟨tag,r,S2,fr',N',ps',asg',body',st,pend,tag',hc,hS2,hst,hq⟩:=h
  obtain ⟨fn0,hfn0,hbody0,hname0⟩:=hc.callable
  have hx:=R.eval hE hr f
  rw [hf] at hx
  refine wpIn_rangeFunc fun fn _=>?_
  rw [hro]
  obtain ⟨rec,hrec⟩ : ∃ rec:Loop,rec={ state:=.ready,pending:=none,fn,tmps:=a.tmps,params:=ps,assign:=asg,body:=body,defers:=E.w.heap.size }:=⟨_,rfl⟩
  obtain ⟨W1,hW1⟩ : ∃ W1,(E.w.alloc (.deferred (some []))).alloc (.loop rec)=W1:=⟨_,rfl⟩
  have hK1:W1.heap[E.w.heap.size]? = some (.deferred (some [])):=by
   rw [← hW1];exact (alloc_lt _ _ _ (by simp)).trans (alloc_at E.w _)
  have hL1:W1.heap[E.w.heap.size+1]? = some (.loop rec):=by
   rw [← hW1];have:=alloc_at (E.w.alloc (.deferred (some []))) (.loop rec);rwa [World.size_alloc] at this
  have hsz1:W1.heap.size=E.w.heap.size+2:=by rw [← hW1];simp
  have hg1:E.w.grownBy W1 none:=by
   rw [← hW1]
   refine ⟨rfl,rfl,rfl,by simp;omega,fun k hk _=>?_⟩
   exact (alloc_lt _ _ _ (by simp;omega)).trans (alloc_lt _ _ _ hk)
  obtain ⟨x1,w1⟩:=env_push hE hg1 (E.w.heap.size+1) (by omega) (by omega) (.loop fr N ps.toList asg body .ready none tag) (fun hext =>
   ⟨E.w.heap.size+1,rec,by rw [← hE.len];simp,hL1,by rw [hrec],by rw [hrec],by rw [hrec],by rw [hrec],by rw [hrec],by rw [hrec];exact hr.size,fun t=>by
    have:=(hr.slot t).ext hE hext
    rw [hrec];exact this⟩)
  have hmu1:(E.mu++[some (E.w.heap.size+1)])[E.S.length]? = some (some (E.w.heap.size+1)):=by rw [← hE.len];simp
  have hS1:(E.S++[ABox.loop fr N ps.toList asg body .ready none tag])[E.S.length]? = some (.loop fr N ps.toList asg body .ready none tag):=by simp
  have hfree1:Env.free { E with w:=W1,mu:=E.mu++[some (E.w.heap.size+1)],S:=E.S++[.loop fr N ps.toList asg body .ready none tag] } E.w.heap.size:=by
   intro i hi
   have hi:(E.mu++[some (E.w.heap.size+1)])[i]? = some (some E.w.heap.size):=hi
   rw [List.getElem?_append] at hi
   split at hi
   ·have:=hE.lt i _ hi;omega
   ·rcases hk:i-E.mu.length with _|q
    ·rw [hk] at hi;simp at hi
    ·rw [hk] at hi;simp at hi
  obtain ⟨E1,hE1⟩ : ∃ E1:Env,E1={ E with w:=W1,mu:=E.mu++[some (E.w.heap.size+1)],S:=E.S++[.loop fr N ps.toList asg body .ready none tag] }:=⟨_,rfl⟩
  have hE1w:E1.w=W1:=by rw [hE1]
  have hE1S:E1.S=E.S++[.loop fr N ps.toList asg body .ready none tag]:=by rw [hE1]
  have hE1m:E1.mu[E.S.length]? = some (some (E.w.heap.size+1)):=by rw [hE1];exact hmu1
  rw [← hE1] at x1 w1 hfree1
  rw [← hE1S] at hS1
  rw [← hE1w] at hK1
  have hdf:=hr.df.push (G:=C.G) x1 hfree1 hK1
  clear hE1
  have hrf1:RF E1 N fr.get { a with defers:=markOf E.w.heap.size::a.defers } :=
   ⟨hr.size,hdf,fun t=>(hr.slot t).ext hE x1⟩
  generalize hv:a.eval f=v at hx
  cases hx with
  |fn _ _ _ avs bvs l1 l2 rx ry =>
   have hne:fn0.body.isNone=false:=by cases hb:fn0.body<;>simp [hb] at hbody0 ⊢
   have hcall:=hc.ok E1 (avs ++ #[Value.func (.yield (E.w.heap.size+1)) #[] #[]]++bvs) w1 hE1S (by simp [l1,l2];omega) (yield_args l1 l2 (fun j h=>(rx j h).ext hE x1) (fun j h=>(ry j h).ext hE x1) (.yld _ _ hE1m ⟨_,hS1,rfl⟩))
   have hcall2:CallsIn F (n-1) C.P g (avs ++ #[Value.func (.yield (E.w.heap.size+1)) #[] #[]]++bvs) E1.w (rangePost F n C.P (E.w.heap.size+1) (fun e a' w'=>∃ E' fr',E'.w=w'∧Wf C.G E'∧Ext E E'∧RF E' N fr'.get a'∧Q e fr' E'.S) { a with defers:=markOf E.w.heap.size::a.defers }):=by
    refine hF.callsIn.2 (hcall.mono ?_)
    rintro e w' ⟨E2,v2,rfl,rfl,k2,k3,k4,k5⟩
    exact rangeFn_post hE x1 w1 hrf1 hE1m ⟨_,hS1,rfl⟩ k2 k3 k4 hS2 hst hq
   rw [hE1w] at hcall2
   refine ⟨E.w.heap.size+1,[markOf E.w.heap.size],W1,{ target:=.fn (.func g) bvs,args:=avs ++ #[Value.func (.yield (E.w.heap.size+1)) #[] #[]] },W1,g,avs ++ #[Value.func (.yield (E.w.heap.size+1)) #[] #[]]++bvs,W1,?_,?_,fun f' _=>hF.fn f',?_,fun hd=>(by rw [hF.depth] at hd;cases hd),?_⟩
   ·rw [← hW1,hrec];exact run_enterLoop_outer _ _ _ _ _
   ·simp only [resolve,hv]
    simp [Deferred.ofValue,Act.eval]
   ·simp only [invoke,callFunc]
    simp only [program,Sem.run,Result.andThen_ok,Sem.run_bind,hfn0,hname0,hne,Bool.false_eq_true,if_false,Sem.run_pure]
   ·exact hcall2
 ·exact h.elim
theorem holes_env {N:Nat} {f:Nat→AVal} {a:Act}:∀ (n:Nat) (E:Env),Wf C.G E→RF E N f a→∃ E',E'.w=E.w∧Ext E E'∧Wf C.G E'∧E'.S=E.S++List.replicate n .hole∧RF E' N f a
 |0,E,hE,hr=>⟨E,rfl,Ext.refl E,hE,by simp,hr⟩
 |n+1,E,hE,hr=>by
  obtain ⟨k1,k2⟩:=env_hole hE
  obtain ⟨E',h1,h2,h3,h4,h5⟩:=holes_env n { E with mu:=E.mu++[none],S:=E.S++[.hole] } k2 (hr.ext hE k1)
  refine ⟨E',h1,k1.trans hE h2,h3,?_,h5⟩
  rw [h4]
  simp [List.replicate_succ]
theorem aC_sound (hC:C.Ok):∀ (c:Code) (Q:Post) (fr:Fr) (S:St),codeOk C N c=true→aC C N (lite c) Q fr S→AWp C N c Q fr S:=by
 intro c
 induction c with
 |skip =>
  intro Q fr S _ h F n hF hro E a hE hS hr
  exact wpIn_skip ⟨E,fr,rfl,hE,Ext.refl E,hr,by rw [hS];exact h⟩
 |region id ops draw =>
  intro Q fr S hok h
  simp only [codeOk,Bool.and_eq_true,Bool.or_eq_true,Bool.not_eq_true',List.all_eq_true] at hok
  replace hok:=hok.1
  simp only [lite] at h
  cases hn:nextOf draw ops.toList with
  |some q =>
   obtain ⟨d,it,rest⟩:=q
   rw [hn] at h
   obtain ⟨e,_⟩:=nextOf_some hn
   subst e
   exact nxt_sound hC hn hok.1 h
  |none =>
   rw [hn] at h
   intro F n hF hro E a hE hS hr
   have key:∃ (m:Md) (j:Nat),m.map (·.1)=C.bm id∧aL C m (ops.toList.map (liteO ops)) (Q .normal) fr (S++List.replicate j .hole):=by
    simp only [aC] at h
    split at h
    ·next U hb=>obtain ⟨B,H,j,h⟩:=h;exact ⟨some (U,B,H),j,by rw [hb];rfl,h⟩
    ·next hb=>exact ⟨none,0,by rw [hb];rfl,by simpa using h⟩
   obtain ⟨m,j,hm,h⟩:=key
   obtain ⟨E0,x1,x2,x3,x4,x5⟩:=holes_env j E hE hr
   obtain ⟨fr',S',hrun,hq⟩:=aL_run (N:=N) (ops:=ops) ops.toList fr _ hok.1 h
   rw [← x1]
   exact region_ok hC (fun e=>by
    rcases hok.2 with h|h
    ·rw [e] at h;cases h
    ·rw [hm];exact h) hrun F n hF E0 a x3 (by rw [x4,hS]) x5 _ fun E' a' k1 k2 k3 k4=>⟨E',fr',rfl,k2,x2.trans hE k1,k4,by rw [k3];exact hq⟩
 |seq a b iha ihb =>
  intro Q fr S hok h F n hF hro E ac hE hS hr
  simp only [codeOk,Bool.and_eq_true] at hok
  simp only [noRF,Bool.and_eq_true] at hro
  refine wpIn_seq (wpIn_mono (iha _ fr S hok.1 h F n hF (hro.imp id (·.1)) E ac hE hS hr) ?_)
  rintro e a' w' ⟨E',fr',rfl,h2,h3,h4,h5⟩
  cases e with
  |normal =>
   exact wpIn_mono (ihb Q fr' E'.S hok.2 h5 F n hF (hro.imp id (·.2)) E' a' h2 rfl h4) fun e a2 w2 ⟨E2,fr2,k1,k2,k3,k4,k5⟩=>⟨E2,fr2,k1,k2,h3.trans hE k3,k4,k5⟩
  |_=>exact ⟨E',fr',rfl,h2,h3,h4,h5⟩
 |cond c a b iha ihb =>
  intro Q fr S hok h F n hF hro E ac hE hS hr
  simp only [codeOk,Bool.and_eq_true] at hok
  simp only [noRF,Bool.and_eq_true] at hro
  simp only [lite,aC] at h
  have hc:=R.eval hE hr c
  split at h
  ·next t ht =>
   rw [ht] at hc
   have e:=hc.bool_inv
   cases t with
   |true=>exact wpIn_cond_true e (iha Q fr S hok.1 (by simpa using h) F n hF (hro.imp id (·.1)) E ac hE hS hr)
   |false=>exact wpIn_cond_false e (ihb Q fr S hok.2 (by simpa using h) F n hF (hro.imp id (·.2)) E ac hE hS hr)
  ·exact h.elim
 |block id a iha =>
  intro Q fr S hok h F n hF hro E ac hE hS hr
  refine wpIn_block (wpIn_mono (iha _ fr S hok h F n hF hro E ac hE hS hr) ?_)
  rintro e a' w' ⟨E',fr',rfl,h2,h3,h4,h5⟩
  cases e with
  |exit i =>
   simp only [Exit.inBlock]
   simp only [blockQ] at h5
   split
   ·next e=>subst e;rw [if_pos rfl] at h5;exact ⟨E',fr',rfl,h2,h3,h4,h5⟩
   ·next e=>rw [if_neg e] at h5;exact ⟨E',fr',rfl,h2,h3,h4,h5⟩
  |_=>exact ⟨E',fr',rfl,h2,h3,h4,h5⟩
 |loop a iha=>intro Q fr S hok h;exact h a rfl hok
 |scope a iha =>
  intro Q fr S hok h F n hF hro E ac hE hS hr
  refine wpIn_scope (wpIn_mono (iha _ fr S hok h F n hF hro E ac hE hS hr) ?_)
  rintro e a' w' ⟨E',fr',rfl,h2,h3,h4,h5⟩
  cases e with
  |goto l=>exact h5.elim
  |_=>exact ⟨E',fr',rfl,h2,h3,h4,h5⟩
 |exit id =>
  intro Q fr S _ h F n hF hro E a hE hS hr
  exact wpIn_exit ⟨E,fr,rfl,hE,Ext.refl E,hr,by rw [hS];exact h⟩
 |ret =>
  intro Q fr S _ h F n hF hro E a hE hS hr
  exact wpIn_ret ⟨E,fr,rfl,hE,Ext.refl E,hr,by rw [hS];exact h⟩
 |label l =>
  intro Q fr S _ h F n hF hro E a hE hS hr
  exact wpIn_label ⟨E,fr,rfl,hE,Ext.refl E,hr,by rw [hS];exact h⟩
 |rangeFunc f ps asg body _ _=>intro Q fr S _ h;exact rangeFn_sound h
 |_=>intro Q fr S _ h;exact h
def Sub (fr F:Fr):Prop:=∀ t,F.get t = .any∨fr.get t=F.get t
theorem Sub.of_all {fr:Fr}:∀ {F:Fr},(∀ p∈F,fr.get p.1=p.2)→Sub fr F:=by
 intro F h t
 induction F with
 |nil=>exact .inl rfl
 |cons p F ih =>
  obtain ⟨k,v⟩:=p
  simp only [Fr.get]
  split
  ·next e=>subst e;exact .inr (h (t,v) (List.mem_cons_self ..))
  ·exact ih fun p hp=>h p (List.mem_cons_of_mem _ hp)
theorem RF.sub {E:Env} {fr F:Fr} {a:Act} (h:RF E N fr.get a) (hs:Sub fr F):RF E N F.get a :=
 ⟨h.size,h.df,fun t=>by
  rcases hs t with e|e
  ·rw [e];exact .any _
  ·rw [← e];exact h.slot t⟩
theorem least (p:Nat→Prop) (h:∃ k,p k):∃ k,p k∧∀ j,p j→k≤j:=by
 refine Classical.byContradiction fun hn=>?_
 have key:∀ k,¬ p k:=by
  intro k
  induction k using Nat.strongRecOn with
  |_ k ih =>
   intro hk
   refine hn ⟨k,hk,fun j hj=>?_⟩
   rcases Nat.lt_or_ge j k with h|h
   ·exact absurd hj (ih j h)
   ·exact h
 obtain ⟨k,hk⟩:=h
 exact key k hk
theorem wpIn_loop_ind {F:Fence} {n:Nat} {P:Program} {c:Code} {Q:Exit→Act→World→Prop} (J:Nat→Act→World→Prop)
  (round:∀ k a w,J k a w→c.wpIn F n P (Exit.then (fun a' w'=>∃ k',k'<k∧J k' a' w') Q) a w) {k:Nat} {a:Act} {w:World} (h:J k a w):(Code.loop c).wpIn F n P Q a w:=by
 refine wpIn_loop (fun a w=>∃ k,J k a w) (fun a w=>if h:∃ k,J k a w then Classical.choose (least (fun k=>J k a w) h) else 0) ⟨k,h⟩ ?_
 intro a w hI
 obtain ⟨h1,h2⟩:=Classical.choose_spec (least (fun k=>J k a w) hI)
 refine wpIn_mono (round _ a w h1) fun e a' w' hq=>?_
 cases e with
 |normal =>
  obtain ⟨k',hk',hJ⟩:=hq
  have hI':∃ k,J k a' w':=⟨k',hJ⟩
  refine ⟨hI',?_⟩
  simp only [dif_pos hI,dif_pos hI']
  have:=(Classical.choose_spec (least (fun k=>J k a' w') hI')).2 k' hJ
  omega
 |_=>exact hq
def GStep (C:Cx) (N:Nat) (fr:Fr) (S:St) (fr':Fr) (S':St):Prop :=
 ∀ E a,Wf C.G E→E.S=S→RF E N fr.get a→∃ E',E'.w=E.w∧Ext E E'∧Wf C.G E'∧E'.S=S'∧RF E' N fr'.get a
theorem GStep.refl (fr:Fr) (S:St):GStep C N fr S fr S:=fun E _ hE hS hr=>⟨E,rfl,Ext.refl E,hE,hS,hr⟩
theorem GStep.trans {fr fr' fr'':Fr} {S S' S'':St} (h:GStep C N fr S fr' S') (k:GStep C N fr' S' fr'' S''):GStep C N fr S fr'' S'':=by
 intro E a hE hS hr
 obtain ⟨E1,e1,x1,w1,s1,r1⟩:=h E a hE hS hr
 obtain ⟨E2,e2,x2,w2,s2,r2⟩:=k E1 a w1 s1 r1
 exact ⟨E2,e2.trans e1,x1.trans hE x2,w2,s2,r2⟩
theorem GStep.full (d:Nat) (t:TypeId) {fr:Fr} {S:St} {sz:Nat} {nl:Bool} {xs:List AVal} (hd:fr.get d = .sl sz nl xs .full) :
  GStep C N fr S ((d,.sl sz nl xs (.grow S.length))::fr) (S++[.grow xs.length sz t]):=by
 intro E a hE hS hr
 subst hS
 obtain ⟨k1,k2⟩:=env_ghost hE xs.length sz t
 refine ⟨{ E with mu:=E.mu++[none],S:=E.S++[.grow xs.length sz t] },rfl,k1,k2,rfl,hr.size,hr.df.ext k1,fun s=>?_⟩
 simp only [Fr.get]
 split
 ·next e =>
  subst e
  have hx:=hr.slot s
  rw [hd] at hx
  have hmu:(E.mu++[none])[E.S.length]? = some none:=by rw [← hE.len];simp
  have hS0:(E.S++[ABox.grow xs.length sz t])[E.S.length]? = some (.grow xs.length sz t):=by simp
  generalize a.tmps.getD s undef=x at hx
  cases hx with
  |slnil _ _ ht=>exact .slnil _ _ ⟨0,t,hS0,Nat.le_refl _,fun _=>.inl ⟨hmu,rfl⟩⟩
  |sl _ _ _ ad n c f hn hc hm hf hcs hrr ht =>
   refine .sl _ _ _ ad n c f hn hc hm (fun j hj=>(hf j hj).ext k1 hE.im) hcs (fun k h j hj=>(hrr k h j hj).ext hE k1) ?_
   subst hn
   exact ⟨xs.length,t,hS0,Nat.le_refl _,fun _=>.inl ⟨hmu,ht⟩⟩
 ·exact (hr.slot s).ext hE k1
theorem GStep.nil (d sz:Nat) (t:TypeId) {fr:Fr} {S:St} {sz0:Nat} {tg:Tag} (hd:fr.get d = .sl sz0 true [] tg) :
  GStep C N fr S ((d,.sl sz true [] (.grow S.length))::fr) (S++[.grow 0 sz t]):=by
 have h1:GStep C N fr S ((d,.sl sz true [] .full)::fr) S:=by
  intro E a hE hS hr
  refine ⟨E,rfl,Ext.refl E,hE,hS,hr.size,hr.df,fun s=>?_⟩
  simp only [Fr.get]
  split
  ·next e =>
   subst e
   have hx:=hr.slot s
   rw [hd] at hx
   generalize a.tmps.getD s undef=x at hx
   cases hx with
   |slnil _ _ ht=>exact .slnil _ _ rfl
  ·exact hr.slot s
 have h2:=GStep.full (C:=C) (N:=N) d t (fr:=(d,.sl sz true [] .full)::fr) (S:=S) (sz:=sz) (nl:=true) (xs:=[]) (by simp [Fr.get])
 have h3:=h1.trans h2
 intro E a hE hS hr
 obtain ⟨E1,e1,x1,w1,s1,r1⟩:=h3 E a hE hS hr
 refine ⟨E1,e1,x1,w1,s1,r1.size,r1.df,fun s=>?_⟩
 have:=r1.slot s
 simp only [Fr.get] at this ⊢
 split
 ·next e=>rw [if_pos e] at this;exact this
 ·next e=>rw [if_neg e,if_neg e] at this;exact this
theorem loop_rule (hC:C.Ok) {l:LC} {Q:Post} {σ:Type} (I:σ→Fr) (T:σ→St) (m:σ→Nat) (J:σ→Prop) {fr fr1:Fr} {S S1:St} (s0:σ) (hg:GStep C N fr S fr1 S1) (h0:J s0∧Sub fr1 (I s0)∧S1=T s0)
  (round:∀ s,J s→aC C N l (thenQ (fun fr' S'=>∃ s',J s'∧Sub fr' (I s')∧S'=T s'∧m s'<m s) Q) (I s) (T s)):ALoop C N l Q fr S:=by
 intro c hl hok F n hF hro E a hE hS hr
 refine wpIn_loop_ind (fun k a' w'=>∃ E' s,E'.w=w'∧Wf C.G E'∧Ext E E'∧J s∧E'.S=T s∧RF E' N (I s).get a'∧m s=k) ?_ (k:=m s0) (by obtain ⟨E1,e1,x1,w1,s1,r1⟩:=hg E a hE hS hr;exact ⟨E1,s0,e1,w1,x1,h0.1,s1.trans h0.2.2,r1.sub h0.2.1,rfl⟩)
 rintro k a' w' ⟨E',s,rfl,h2,h3,h4,h5,h6,rfl⟩
 refine wpIn_mono (aC_sound hC c _ (I s) (T s) hok (by rw [hl];exact round s h4) F n hF (by simpa [noRF] using hro) E' a' h2 h5 h6) ?_
 rintro e a2 w2 ⟨E2,fr2,rfl,k2,k3,k4,k5⟩
 cases e with
 |normal =>
  obtain ⟨s',j1,j2,j3,j4⟩:=k5
  exact ⟨m s',j4,E2,s',rfl,k2,h3.trans hE k3,j1,j3,k4.sub j2,rfl⟩
 |_=>exact ⟨E2,fr2,rfl,k2,h3.trans hE k3,k4,k5⟩
def frame0 (args:List AVal):Fr:=args.zipIdx.map fun p=>(p.2,p.1)
theorem frame0_get (args:List AVal) (t:Nat):(frame0 args).get t=args.getD t .any:=by
 have key:∀ (args:List AVal) (k t:Nat),(Fr.get ((args.zipIdx k).map fun p=>(p.2,p.1)) (k+t))=args.getD t .any:=by
  intro args
  induction args with
  |nil=>intro k t;rfl
  |cons a args ih =>
   intro k t
   simp only [List.zipIdx_cons,List.map_cons,Fr.get]
   cases t with
   |zero=>simp
   |succ t =>
    rw [if_neg (by omega)]
    have:=ih (k+1) t
    rw [show k+(t+1)=k+1+t by omega,this]
    simp
 have:=key args 0 t
 rwa [Nat.zero_add] at this
def resV (C:Cx) (fr:Fr) (S:St):ResultVar→Option Out
 |.tmp t=>some ⟨True,fr.get t,S⟩
 |.cell a t=>aLoad C S t (fr.get a)
def resVs (C:Cx) (fr:Fr) (S:St):List ResultVar→Option (Prop × List AVal)
 |[]=>some (True,[])
 |r::rs=>match resV C fr S r,resVs C fr S rs with
  |some o,some (sd,vs)=>some (o.sd∧sd,o.r::vs)
  |_,_=>none
def aRes (C:Cx) (fr:Fr) (S:St) (rs:List ResultVar):Option (Prop × AVal) :=
 match resVs C fr S rs with
 |some (sd,[v])=>some (sd,v)
 |some (sd,vs)=>some (sd,.tup vs)
 |none=>none
theorem aLoad_pure (hC:C.Ok) {E:Env} (hE:Wf C.G E) {t:TypeId} {v:AVal} {x:Value} {o:Out} (hx:R E v x) (h:aLoad C E.S t v=some o) (hs:o.sd):(∃ ad,x = .pointer (some ad))∧∃ y,(Instr.loadAt t x).run C.P E.w = .ok y E.w∧R E o.r y:=by
 unfold aLoad at h
 split at h
 ·cases h
 ·next i hi =>
  split at h
  ·next cs =>
   injection h with h;subst h
   cases hx with
   |cptr _ ad f hf hr=>exact ⟨⟨ad,rfl⟩,load_core (hC.T.ok t i hi) ad cs f hs (fun j hj=>(hf j hj).2.1) hr⟩
  ·next b off =>
   split at h
   ·next bs tb hb =>
    injection h with h;subst h
    have hlen:off+i.size≤bs.length:=hs
    cases hx with
    |ptr _ _ c hm hbx =>
     obtain ⟨c',arr,h1,h2,h3,h4⟩:=hE.entry b _ hb
     have:c'=c:=by rw [hm] at h1;injection h1 with h1;injection h1 with h1;exact h1.symm
     subst this
     refine ⟨⟨_,rfl⟩,load_core (E:=E) (hC.T.ok t i hi) ⟨c',off,none⟩ (bs.drop off) (fun j=>arr.getD (off+j) undef) (by rw [List.length_drop];omega)
      (fun j hj=>by
       rw [List.length_drop] at hj
       rw [add_form _ _ rfl]
       have:off+j<arr.size:=by omega
       simp [World.cell?,h2,Array.getD,this])
      (fun j hj=>by
       rw [List.length_drop] at hj
       have:=(h4 (off+j) (by omega)).1
       simpa using this)⟩
   ·next bs tb hb =>
    injection h with h;subst h
    have hlen:off+i.size≤bs.length:=hs
    cases hx with
    |ptr _ _ c hm hbx =>
     obtain ⟨c',arr,h1,h2,h3,h4⟩:=hE.entry b _ hb
     have:c'=c:=by rw [hm] at h1;injection h1 with h1;injection h1 with h1;exact h1.symm
     subst this
     refine ⟨⟨_,rfl⟩,load_core (E:=E) (hC.T.ok t i hi) ⟨c',off,none⟩ (bs.drop off) (fun j=>arr.getD (off+j) undef) (by rw [List.length_drop];omega)
      (fun j hj=>by
       rw [List.length_drop] at hj
       rw [add_form _ _ rfl]
       have:off+j<arr.size:=by omega
       simp [World.cell?,h2,Array.getD,this])
      (fun j hj=>by
       rw [List.length_drop] at hj
       have:=(h4 (off+j) (by omega)).1
       simpa using this)⟩
   ·cases h
  ·cases h
def resSem (tmps:Array Value):ResultVar→Sem Value
 |.tmp t=>pure (tmps.getD t undef)
 |.cell a t=>do loadVar t (← asAddr (tmps.getD a undef))
theorem resV_ok (hC:C.Ok) {E:Env} {fr:Fr} {a:Act} (hE:Wf C.G E) (hr:RF E N fr.get a) {rv:ResultVar} {o:Out} (h:resV C fr E.S rv=some o) (hs:o.sd) :
  ∃ x,(resSem a.tmps rv).run C.P E.w = .ok x E.w∧R E o.r x:=by
 cases rv with
 |tmp t =>
  simp only [resV,Option.some.injEq] at h
  subst h
  exact ⟨_,rfl,hr.slot t⟩
 |cell b t =>
  simp only [resV] at h
  obtain ⟨⟨ad,had⟩,y,h1,h2⟩:=aLoad_pure hC hE (hr.slot b) h hs
  refine ⟨y,?_,h2⟩
  rw [had] at h1
  simp only [resSem,had,asAddr,Sem.run_bind,Sem.run_pure,Result.andThen_ok]
  simpa [Instr.loadAt,Instr.sureAddr] using h1
theorem resVs_ok (hC:C.Ok) {E:Env} {fr:Fr} {a:Act} (hE:Wf C.G E) (hr:RF E N fr.get a):∀ (rs:List ResultVar) (sd:Prop) (vs:List AVal),resVs C fr E.S rs=some (sd,vs)→sd →
  ∃ xs:List Value,(rs.mapM (resSem a.tmps)).run C.P E.w = .ok xs E.w∧xs.length=vs.length∧∀ j (h:j<vs.length),R E vs[j] (xs.getD j undef):=by
 intro rs
 induction rs with
 |nil =>
  intro sd vs h hs
  simp only [resVs,Option.some.injEq,Prod.mk.injEq] at h
  obtain ⟨_,rfl⟩:=h
  exact ⟨[],by simp,rfl,fun j h=>by simp at h⟩
 |cons r rs ih =>
  intro sd vs h hs
  simp only [resVs] at h
  split at h
  ·next o sd' vs' ho hrest =>
   injection h with h
   injection h with h1 h2
   subst h1 h2
   obtain ⟨x,e1,e2⟩:=resV_ok hC hE hr ho hs.1
   obtain ⟨xs,f1,f2,f3⟩:=ih sd' vs' hrest hs.2
   refine ⟨x::xs,by simp [List.mapM_cons,e1,f1],by simp [f2],fun j hj=>?_⟩
   cases j with
   |zero=>exact e2
   |succ j=>exact f3 j (by simpa using hj)
  ·cases h
theorem results_run (fn:Func) (tmps:Array Value):results fn tmps=(do
  let vs ← fn.results.mapM (resSem tmps)
  pure (if h:vs.size=1 then vs[0] else .tuple vs)):=by
 unfold results
 rfl
theorem aRes_ok (hC:C.Ok) {E:Env} {fr:Fr} {a:Act} (hE:Wf C.G E) (hr:RF E N fr.get a) {fn:Func} {sd:Prop} {v:AVal} (h:aRes C fr E.S fn.results.toList=some (sd,v)) (hs:sd) :
  ∃ x,(results fn a.tmps).run C.P E.w = .ok x E.w∧R E v x:=by
 have fin:∀ (sd':Prop) (vs:List AVal),resVs C fr E.S fn.results.toList=some (sd',vs)→sd'→∃ xs:List Value,(fn.results.mapM (resSem a.tmps)).run C.P E.w = .ok xs.toArray E.w∧xs.length=vs.length∧∀ j (h:j<vs.length),R E vs[j] (xs.getD j undef):=by
  intro sd' vs h1 h2
  obtain ⟨xs,f1,f2,f3⟩:=resVs_ok hC hE hr _ sd' vs h1 h2
  refine ⟨xs,?_,f2,f3⟩
  rw [Array.mapM_eq_mapM_toList]
  simp [f1]
 unfold aRes at h
 split at h
 ·next sd' v' hv =>
  injection h with h;injection h with h1 h2
  subst h1 h2
  obtain ⟨xs,f1,f2,f3⟩:=fin _ _ hv hs
  obtain ⟨x,rfl⟩:=List.length_eq_one_iff.1 f2
  refine ⟨x,?_,f3 0 (by simp)⟩
  rw [results_run,Sem.run_bind,f1]
  rfl
 ·next sd' vs hne hv =>
  injection h with h;injection h with h1 h2
  subst h1 h2
  obtain ⟨xs,f1,f2,f3⟩:=fin _ _ hv hs
  have hl:vs.length≠1:=by
   intro e
   obtain ⟨v,rfl⟩:=List.length_eq_one_iff.1 e
   exact hne _ rfl
  refine ⟨.tuple xs.toArray,?_,.tup _ _ (by simp [f2]) fun j hj=>by simpa [List.getD,Array.getD_eq_getD_getElem?] using f3 j hj⟩
  rw [results_run,Sem.run_bind,f1]
  have:¬ (xs.toArray.size=1):=by simp [f2];exact hl
  simp only [Result.andThen_ok,this,dite_false,Sem.run_pure]
 ·cases h
structure FnOk (C:Cx) (f:FuncId) (l:LC) (N:Nat) (rs:List ResultVar):Prop where
 ex:∃ fn c,C.P.funcs[f]? = some fn∧fn.body=some c∧(fn.name == "runtime.NumGoroutine")=false∧lite c=l∧fn.ntmps=N∧fn.results.toList=rs
def Cx.wp (C:Cx) (p:FuncId→Bool) (q:Nat→Option UL):Cx:={ C with pc:=p,bm:=q }
theorem Cx.Ok.wp {C:Cx} (h:C.Ok) (p:FuncId→Bool) (q:Nat→Option UL):(C.wp p q).Ok:=⟨h.T,h.cells,h.mixed⟩
def isRet:Exit→Prop
 |.normal|.ret=>True
 |_=>False
structure BodyOk (C:Cx) (f:FuncId) (p:FuncId→Bool) (q:Nat→Option UL):Prop where
 ok:∀ fn c,C.P.funcs[f]? = some fn→fn.body=some c→codeOk (C.wp p q) fn.ntmps c=true
theorem calls_awp (hC:C.Ok) {f:FuncId} {l:LC} {rs:List ResultVar} (hf:FnOk C f l N rs) (p:FuncId→Bool) (q:Nat→Option UL) (hb:BodyOk C f p q) {args:List AVal} (hlen:args.length≤N) {S:St} {K:AVal→St→Prop}
  (h:∀ c,lite c=l→codeOk (C.wp p q) N c=true→AWp (C.wp p q) N c (fun e fr T=>isRet e∧match aRes C fr T rs with|some (sd,v)=>sd∧K v T|none=>False) (frame0 args) S)
  (E:Env) (vs:Array Value) (hE:Wf C.G E) (hS:E.S=S) (hvs:vs.size=args.length) (hr:∀ j (h:j<args.length),R E args[j] (vs.getD j undef)) :
  Calls C.P f vs E.w fun e w'=>∃ E' x v,e = .returned x∧E'.w=w'∧Wf C.G E'∧Ext E E'∧R E' v x∧K v E'.S:=by
 obtain ⟨fn,c,h1,h2,h3,h4,h5,h6⟩:=hf.ex
 have hok:=hb.ok fn c h1 h2
 rw [h5] at hok
 have hw:=h c h4 hok
 have hE1:Wf C.G (E.acts E.w.heap.size):=hE.acts _
 refine (callsIn_wide (n:=0)).1 (callsIn_of_wp_marks h1 h2 trivial ((wpIn_mono (hw Fence.wide 0 FW.wide (.inl rfl) (E.acts E.w.heap.size) { tmps:=vs++Array.replicate (fn.ntmps-vs.size) undef,defers:=[] } hE1 hS ⟨?_,Marks.nil (Nat.le_refl _),fun t=>?_⟩) ?_)))
 ·simp [h5,hvs];omega
 ·rw [frame0_get]
  refine R.acts _ ?_
  by_cases ht:t<args.length
  ·have ht2:t<vs.size:=by omega
   have:=hr t ht
   simp only [List.getD,List.getElem?_eq_getElem ht,Option.getD_some]
   simp only [Array.getD_eq_getD_getElem?] at this ⊢
   rw [Array.getElem?_append_left ht2]
   exact this
  ·simp only [List.getD,List.getElem?_eq_none (by omega:args.length≤t),Option.getD_none]
   exact .any _
 ·rintro e a' w' ⟨E',fr',rfl,k2,k3,k4,k5,k6⟩
  cases hres:aRes C fr' E'.S rs with
  |none=>rw [hres] at k6;exact k6.elim
  |some qq =>
   obtain ⟨sd,v⟩:=qq
   rw [hres] at k6
   obtain ⟨_,ms,d1,d2,d3⟩:=k4.df
   have fin:LeavesInM Fence.wide 0 C.P fn a'.tmps (fun e w'=>∃ E' x v,e = .returned x∧E'.w=w'∧Wf C.G E'∧Ext E E'∧R E' v x∧K v E'.S) a'.defers .returning E'.w:=by
    rw [d1]
    refine leaves_marks hE1 ms E' k2 k3 d2 (fun r hr=>⟨by have:=(d3 r hr).1;rw [k3.act] at this;exact this,(d3 r hr).2.1,(d3 r hr).2.2⟩) _ fun E2 j1 j2 j3 j4=>?_
    have hr2:RF (E2.acts E2.w.heap.size) N fr'.get { tmps:=a'.tmps,defers:=[] }:=⟨k4.size,Marks.nil (Nat.le_refl _),fun t=>(j4 _ _ (k4.slot t)).acts _⟩
    obtain ⟨x,x1,x2⟩:=aRes_ok hC (j1.acts E2.w.heap.size) hr2 (fn:=fn) (by rw [h6];show aRes C fr' E2.S rs=_;rw [j3];exact hres) k6.1
    refine ⟨x,x1,E2.acts E.act,x,v,rfl,rfl,j1.acts _,⟨j2.base,j2.im0,rfl,j2.size,j2.os,j2.tape,j2.output,j2.len,j2.free,j2.box,j2.grow,j2.frz,j2.row⟩,?_,by
      show K v E2.S
      rw [j3];exact k6.2⟩
    have:=R.acts E.act x2
    exact this
   cases e<;>try (exact (id k5:False).elim)
   case normal=>exact fin
   case ret=>exact fin
theorem calls_body (hC:C.Ok) {f:FuncId} {l:LC} {rs:List ResultVar} (hf:FnOk C f l N rs) (p:FuncId→Bool) (q:Nat→Option UL) (hb:BodyOk C f p q) {args:List AVal} (hlen:args.length≤N) {S:St} {K:AVal→St→Prop}
  (h:aC (C.wp p q) N l (fun e fr T=>isRet e∧match aRes C fr T rs with|some (sd,v)=>sd∧K v T|none=>False) (frame0 args) S)
  (E:Env) (vs:Array Value) (hE:Wf C.G E) (hS:E.S=S) (hvs:vs.size=args.length) (hr:∀ j (h:j<args.length),R E args[j] (vs.getD j undef)) :
  Calls C.P f vs E.w fun e w'=>∃ E' x v,e = .returned x∧E'.w=w'∧Wf C.G E'∧Ext E E'∧R E' v x∧K v E'.S :=
 calls_awp hC hf p q hb hlen (fun c hl hok=>aC_sound (hC.wp p q) c _ (frame0 args) S hok (by rw [hl];exact h)) E vs hE hS hvs hr
theorem FnOk.callable {f:FuncId} {l:LC} {rs:List ResultVar} (hf:FnOk C f l N rs):∃ fn,C.P.funcs[f]? = some fn∧fn.body.isSome=true∧(fn.name == "runtime.NumGoroutine")=false:=by
 obtain ⟨fn,c,h1,h2,h3,_⟩:=hf.ex
 exact ⟨fn,h1,by rw [h2];rfl,h3⟩
theorem acall_intro (hC:C.Ok) {f:FuncId} {l:LC} {rs:List ResultVar} (hf:FnOk C f l N rs) (p:FuncId→Bool) (q:Nat→Option UL) (hb:BodyOk C f p q) {args:List AVal} (hlen:args.length≤N) {S S':St} {r:AVal}
  (h:aC (C.wp p q) N l (fun e fr T=>isRet e∧match aRes C fr T rs with|some (sd,v)=>sd∧v=r∧T=S'|none=>False) (frame0 args) S):ACall C f args S r S' :=
 ⟨hf.callable,fun E vs hE hS hvs hr=>(calls_body hC hf p q hb hlen (K:=fun v T=>v=r∧T=S') h E vs hE hS hvs hr).mono fun _ _ ⟨E',x,_,h1,h2,h3,h4,h5,h6,h7⟩=>⟨E',x,h1,h2,h3,h4,h7,h6▸h5⟩⟩
end
end
end Go.Am
