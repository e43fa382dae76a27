/- The abstract layer: the walk's rules in a region that draws its order, with loads and calls that the edges leave unordered. -/
import Derived.Test.YteemcehaekffeaaGreatAmWalk
set_option linter.unusedVariables false
set_option linter.unusedSimpArgs false
section
namespace Go.Am
open Go
noncomputable section
variable {C:Cx} {N:Nat}
theorem bokH {U:UL} {B:List (Option Nat × Nat)} {H:Holes} {o:Oper} {g:Nat→AVal} {S S':St} {r:AVal} (h3:cls C o.op≠3) (hl:∀ b,loadBox C o.op g=some b→(o.dst,b)∈B)
  (hk:∀ e∈B,(e.1,o.dst)∈U→S'[e.2]? = S[e.2]?) (hi:isIns o.op=false) (h4:cls C o.op=2→(∀ e∈H,S'[e.1]? = some .hole→S[e.1]? = some .hole)∧∀ L:Holes,(∀ e∈L,e∈H∧S[e.1]? = some .hole)→StepX C o g (fill S L) r (fill S' L)) :
  BOk C (some (U,B,H)) o g S r S':=⟨hl,hk,fun h=>absurd h h3,h4,fun _ h=>by rw [hi] at h;cases h⟩
theorem bok0 {U:UL} {B:List (Option Nat × Nat)} {o:Oper} {g:Nat→AVal} {S S':St} {r:AVal} (hst:StepX C o g S r S') (h3:cls C o.op≠3) (hl:∀ b,loadBox C o.op g=some b→(o.dst,b)∈B)
  (hk:∀ e∈B,(e.1,o.dst)∈U→S'[e.2]? = S[e.2]?) (hi:isIns o.op=false):BOk C (some (U,B,[])) o g S r S' :=
 ⟨hl,hk,fun h=>absurd h h3,fun _=>⟨fun _ h=>(by cases h),fun L hL=>by
  cases L with
  |nil=>exact hst
  |cons e L=>cases (hL e (List.mem_cons_self ..)).1⟩,fun _ h=>by rw [hi] at h;cases h⟩
theorem aC_regB {id:Nat} {ops:List LO} {Q:Post} {fr:Fr} {S:St} {U:UL} (hb:C.bm id=some U) (B:List (Option Nat × Nat)) (k:aL C (some (U,B,[])) ops (Q .normal) fr S):aC C N (.reg id ops) Q fr S:=by
 simp only [aC,hb]
 exact ⟨B,[],0,by simpa using k⟩
theorem aC_regH {id:Nat} {ops:List LO} {Q:Post} {fr:Fr} {S:St} {U:UL} (hb:C.bm id=some U) (B:List (Option Nat × Nat)) (H:Holes) (n:Nat) (k:aL C (some (U,B,H)) ops (Q .normal) fr (S++List.replicate n .hole)):aC C N (.reg id ops) Q fr S:=by
 simp only [aC,hb]
 exact ⟨B,H,n,k⟩
theorem aLB_nil {U:UL} {B:List (Option Nat × Nat)} {Q:Fr→St→Prop} {fr:Fr} {S:St} (k:Q fr S):aL C (some (U,B,[])) [] Q fr S:=k
theorem aLB_step {U:UL} {B:List (Option Nat × Nat)} {d:Option Nat} {op:Op} {gd:Option (Option Nat × Bool)} {rest:List LO} {Q:Fr→St→Prop} {fr:Fr} {S:St} {sd:Prop} {r:AVal} {fr':Fr}
  (hop:(match op with|.call ⟨.value _,_,_⟩=>False|_=>True)) (h3:cls C op≠3) (hi:isIns op=false) (hg:wantL gd fr=some true) (h:aStep C op fr.get S=some ⟨sd,r,S⟩) (hf:fr.put d r=fr')
  (hl:∀ b,loadBox C op fr.get=some b→(d,b)∈B) (k:aL C (some (U,B,[])) rest Q fr' S) (hs:sd):aL C (some (U,B,[])) (⟨d,op,gd⟩::rest) Q fr S:=by
 simp only [aL,hg,if_true,aOpK]
 subst hf
 have hb:BOk C (some (U,B,[])) (bare op d) fr.get S r S:=bok0 (o:=bare op d) (.step ⟨sd,r,S⟩ h hs) h3 hl (fun _ _ _=>rfl) hi
 refine .inr (.inr ?_)
 split
 ·exact hop.elim
 ·rw [h];exact ⟨hs,hb,k⟩
theorem aLB_skip {U:UL} {B:List (Option Nat × Nat)} {o:LO} {rest:List LO} {Q:Fr→St→Prop} {fr:Fr} {S:St} {fr':Fr}
  (hg:wantL o.gd fr=some false) (hf:fr.put o.d (.raw undef)=fr') (k:aL C (some (U,B,[])) rest Q fr' S):aL C (some (U,B,[])) (o::rest) Q fr S:=by
 subst hf
 simp only [aL,hg,Bool.false_eq_true,if_false]
 exact k
theorem aLB_call {U:UL} {B:List (Option Nat × Nat)} {d:Option Nat} {gd:Option (Option Nat × Bool)} {x:Operand} {xs:Array Operand} {ts:Array TypeId} {rest:List LO} {Q:Fr→St→Prop} {fr:Fr} {S:St} {f:FuncId} {as bs args:List AVal} {r:AVal} {S':St} {fr':Fr}
  (hg:wantL gd fr=some true) (hx:aEval C fr.get x = .fn (.func f) as bs) (ha:as++xs.toList.map (aEval C fr.get)++bs=args) (h:CallX C f args S r S') (hf:fr.put d r=fr')
  (hk:∀ e∈B,(e.1,d)∈U→S'[e.2]? = S[e.2]?) (k:aL C (some (U,B,[])) rest Q fr' S'):aL C (some (U,B,[])) (⟨d,.call ⟨.value x,xs,ts⟩,gd⟩::rest) Q fr S:=by
 subst hf ha
 have hc:cls C (.call ⟨.value x,xs,ts⟩)≠3:=by
  simp only [cls]
  split
  ·cases ‹_=Callee.builtin _›
  ·split<;>decide
  ·decide
 have hb:BOk C (some (U,B,[])) (bare (.call ⟨.value x,xs,ts⟩) d) fr.get S r S' :=
  bok0 (o:=bare (.call ⟨.value x,xs,ts⟩) d) (.call x xs ts f as bs r S' rfl hx h) hc (fun b hb=>by cases hb) hk rfl
 simp only [aL,hg,if_true,aOpK,hx]
 exact .inr (.inr ⟨r,S',h,hb,k⟩)
theorem aLB_pure {U:UL} {B:List (Option Nat × Nat)} {p:FuncId→Bool} {q:Nat→Option UL} {d:Option Nat} {gd:Option (Option Nat × Bool)} {x:Operand} {xs:Array Operand} {ts:Array TypeId} {rest:List LO} {Q:Fr→St→Prop} {fr:Fr} {S:St} {f:FuncId} {as bs args cargs:List AVal} {r:AVal} {fr':Fr}
  (hG:GClosed C) (hc:APure C f cargs r) (hg:wantL gd fr=some true) (hx:aEval (C.wp p q) fr.get x = .fn (.func f) as bs) (ha:as++xs.toList.map (aEval (C.wp p q) fr.get)++bs=args) (he:cargs=args.map era) (hcl:∀ a∈cargs,Closed a) (hf:fr.put d r=fr')
  (k:aL (C.wp p q) (some (U,B,[])) rest Q fr' S):aL (C.wp p q) (some (U,B,[])) (⟨d,.call ⟨.value x,xs,ts⟩,gd⟩::rest) Q fr S :=
 aLB_call hg hx ha (APure.callW hG hc he hcl) hf (fun _ _ _=>rfl) k
theorem aLB_acall {U:UL} {B:List (Option Nat × Nat)} {p:FuncId→Bool} {q:Nat→Option UL} {d:Option Nat} {gd:Option (Option Nat × Bool)} {x:Operand} {xs:Array Operand} {ts:Array TypeId} {rest:List LO} {Q:Fr→St→Prop} {fr:Fr} {S S':St} {f:FuncId} {as bs args cargs:List AVal} {r:AVal} {fr':Fr}
  (hc:ACall C f cargs S r S') (hp:p f=false) (hg:wantL gd fr=some true) (hx:aEval (C.wp p q) fr.get x = .fn (.func f) as bs) (ha:as++xs.toList.map (aEval (C.wp p q) fr.get)++bs=args) (he:cargs=args) (hf:fr.put d r=fr')
  (hk:∀ e∈B,(e.1,d)∈U→S'[e.2]? = S[e.2]?) (k:aL (C.wp p q) (some (U,B,[])) rest Q fr' S'):aL (C.wp p q) (some (U,B,[])) (⟨d,.call ⟨.value x,xs,ts⟩,gd⟩::rest) Q fr S :=
 aLB_call hg hx ha (he▸hc.callX hp) hf hk k
theorem aLookup_X {S:St} {t kt et:TypeId} {i j:TI} {b:Nat} {k:AVal} {ok:Bool} {es:List (AVal × AVal)} (hi:C.T t=some i) (hd:i.d = .map kt et) (hj:C.T et=some j) (hS:boxX S[b]? = some es) :
  aLookup C S t (.map b) k ok=some ⟨keysOk C kt k (tagE es)∧oneX k es=true,if ok=true then .tup [lookV k (tagE es) (ofCells j j.zero),.bool (findK k (tagE es)).isSome] else lookV k (tagE es) (ofCells j j.zero),S⟩:=by
 unfold aLookup
 simp only [hi,hd,hj]
 split
 ·next hb=>rw [hb] at hS;cases hS
 ·simp only [hS]
theorem aL_lookX {d:Option Nat} {gd:Option (Option Nat × Bool)} {t:TypeId} {m k:Operand} {ok:Bool} {rest:List LO} {Q:Fr→St→Prop} {fr:Fr} {S:St} {b:Nat} {kv:AVal} {sd:Prop} {r:AVal} {fr':Fr}
  (h:aLookup C S t (.map b) kv ok=some ⟨sd,r,S⟩) (hg:wantL gd fr=some true) (hm:aEval C fr.get m = .map b) (hk:aEval C fr.get k=kv) (hf:fr.put d r=fr') (kk:aL C none rest Q fr' S) (hs:sd) :
  aL C none (⟨d,.lookup t m k ok,gd⟩::rest) Q fr S:=by
 refine aL_step True.intro hg (sd:=sd) (r:=r) ?_ hf kk hs
 subst hk
 show aLookup C S t (aEval C fr.get m) (aEval C fr.get k) ok=_
 rw [hm];exact h
end
end Go.Am
end
section
namespace Go.Am
open Go
noncomputable section
variable {C:Cx} {N:Nat}
theorem aLB_write {U:UL} {B:List (Option Nat × Nat)} {d:Option Nat} {op:Op} {gd:Option (Option Nat × Bool)} {rest:List LO} {Q:Fr→St→Prop} {fr:Fr} {S S':St} {sd:Prop} {r:AVal} {fr':Fr}
  (hop:(match op with|.call ⟨.value _,_,_⟩=>False|_=>True)) (h3:cls C op=2) (hi:isIns op=false) (hg:wantL gd fr=some true) (h:aStep C op fr.get S=some ⟨sd,r,S'⟩) (hf:fr.put d r=fr')
  (hk:∀ e∈B,(e.1,d)∈U→S'[e.2]? = S[e.2]?) (k:aL C (some (U,B,[])) rest Q fr' S') (hs:sd):aL C (some (U,B,[])) (⟨d,op,gd⟩::rest) Q fr S:=by
 simp only [aL,hg,if_true,aOpK]
 subst hf
 have hb:BOk C (some (U,B,[])) (bare op d) fr.get S r S':=bok0 (o:=bare op d) (.step ⟨sd,r,S'⟩ h hs) (by show cls C op≠3;rw [h3];decide)
  (fun b hb=>by
   have:cls C op=0∨cls C op=1:=by
    have e0:(bare op d).op=op:=rfl
    rw [e0] at hb
    clear h hop hi h3 hk
    cases op
    all_goals first
     |(simp only [loadBox] at hb;cases hb;done)
     |(exact .inr rfl)
     |(simp only [cls];split<;>simp)
   rw [h3] at this;rcases this with h|h<;>cases h) hk hi
 refine .inr (.inr ?_)
 split
 ·exact hop.elim
 ·rw [h];exact ⟨hs,hb,k⟩
theorem aLH_nil {m:Md} {Q:Fr→St→Prop} {fr:Fr} {S:St} (k:Q fr S):aL C m [] Q fr S:=k
theorem aLH_skip {m:Md} {o:LO} {rest:List LO} {Q:Fr→St→Prop} {fr:Fr} {S:St} {fr':Fr}
  (hg:wantL o.gd fr=some false) (hf:fr.put o.d (.raw undef)=fr') (k:aL C m rest Q fr' S):aL C m (o::rest) Q fr S:=by
 subst hf
 simp only [aL,hg,Bool.false_eq_true,if_false]
 exact k
theorem aLH_step {U:UL} {B:List (Option Nat × Nat)} {H:Holes} {d:Option Nat} {op:Op} {gd:Option (Option Nat × Bool)} {rest:List LO} {Q:Fr→St→Prop} {fr:Fr} {S:St} {sd:Prop} {r:AVal} {fr':Fr}
  (hop:(match op with|.call ⟨.value _,_,_⟩=>False|_=>True)) (h3:Nat.ble (cls C op) 1=true) (hi:isIns op=false) (hg:wantL gd fr=some true) (h:aStep C op fr.get S=some ⟨sd,r,S⟩) (hf:fr.put d r=fr')
  (hl:∀ b,loadBox C op fr.get=some b→(d,b)∈B) (k:aL C (some (U,B,H)) rest Q fr' S) (hs:sd):aL C (some (U,B,H)) (⟨d,op,gd⟩::rest) Q fr S:=by
 simp only [aL,hg,if_true,aOpK]
 subst hf
 have h3:=Nat.le_of_ble_eq_true h3
 have hb:BOk C (some (U,B,H)) (bare op d) fr.get S r S:=bokH (o:=bare op d) (by show cls C op≠3;omega) hl (fun _ _ _=>rfl) hi (fun h=>by
  have h:cls C op=2:=h
  omega)
 refine .inr (.inr ?_)
 split
 ·exact hop.elim
 ·rw [h];exact ⟨hs,hb,k⟩
theorem aLH_alloc {U:UL} {B:List (Option Nat × Nat)} {H:Holes} {d:Option Nat} {t:TypeId} {i:TI} {gd:Option (Option Nat × Bool)} {rest:List LO} {Q:Fr→St→Prop} {fr:Fr} {S S':St} {fr':Fr} (j:Nat)
  (hg:wantL gd fr=some true) (hi:C.T t=some i) (hs:S[j]? = some .hole) (hS:S.set j (.cells i.zero t)=S') (hf:fr.put d (.ptr j 0)=fr') (hH:(j,.cells i.zero t)∈H) (hk:∀ e∈B,(e.1,d)∈U→S'[e.2]? = S[e.2]?) (k:aL C (some (U,B,H)) rest Q fr' S') :
  aL C (some (U,B,H)) (⟨d,.alloc t,gd⟩::rest) Q fr S:=by
 simp only [aL,hg,if_true,aOpK]
 subst hf hS
 exact .inr (.inl (.inl ⟨j,t,i,rfl,hi,hs,⟨(fun b hb=>by cases hb),hk,fun _=>⟨j,_,hH,(fun e=>by cases e),hs,rfl,fun U hU=>.fillA j t i rfl hi hU⟩,(fun h=>by cases h),fun _ h=>by cases h⟩,k⟩))
theorem aLH_write {U:UL} {B:List (Option Nat × Nat)} {H:Holes} {d:Option Nat} {op:Op} {gd:Option (Option Nat × Bool)} {rest:List LO} {Q:Fr→St→Prop} {fr:Fr} {S S':St} {sd:Prop} {r:AVal} {fr':Fr}
  (hop:(match op with|.call ⟨.value _,_,_⟩=>False|_=>True)) (h3:Nat.beq (cls C op) 2=true) (hi:isIns op=false) (hl:loadBox C op fr.get=none) (hg:wantL gd fr=some true) (h:aStep C op fr.get S=some ⟨sd,r,S'⟩) (hf:fr.put d r=fr')
  (hn:∀ e∈H,S[e.1]? ≠ some .hole) (hn':∀ e∈H,S'[e.1]? ≠ some .hole) (hk:∀ e∈B,(e.1,d)∈U→S'[e.2]? = S[e.2]?) (k:aL C (some (U,B,H)) rest Q fr' S') (hs:sd):aL C (some (U,B,H)) (⟨d,op,gd⟩::rest) Q fr S:=by
 simp only [aL,hg,if_true,aOpK]
 subst hf
 have hb:BOk C (some (U,B,H)) (bare op d) fr.get S r S':=bokH (o:=bare op d) (fun h=>by
   have h:cls C op=3:=h
   rw [Nat.eq_of_beq_eq_true h3] at h
   cases h) (fun b hb=>by rw [show loadBox C (bare op d).op fr.get=none from hl] at hb;cases hb) hk hi (fun _=>⟨fun e he h=>absurd h (hn' e he),fun L hL=>by
  cases L with
  |nil=>exact .step ⟨sd,r,S'⟩ h hs
  |cons e L=>exact absurd (hL e (List.mem_cons_self ..)).2 (hn e (hL e (List.mem_cons_self ..)).1)⟩)
 refine .inr (.inr ?_)
 split
 ·exact hop.elim
 ·rw [h];exact ⟨hs,hb,k⟩
theorem aLH_call {U:UL} {B:List (Option Nat × Nat)} {H:Holes} {d:Option Nat} {gd:Option (Option Nat × Bool)} {x:Operand} {xs:Array Operand} {ts:Array TypeId} {rest:List LO} {Q:Fr→St→Prop} {fr:Fr} {S:St} {f:FuncId} {as bs args:List AVal} {r:AVal} {S':St} {fr':Fr}
  (hg:wantL gd fr=some true) (hx:aEval C fr.get x = .fn (.func f) as bs) (ha:as++xs.toList.map (aEval C fr.get)++bs=args) (h:CallX C f args S r S') (hf:fr.put d r=fr')
  (hH:∀ e∈H,S'[e.1]? = some .hole→S[e.1]? = some .hole) (hL:∀ L:Holes,(∀ e∈L,e∈H∧S[e.1]? = some .hole)→CallX C f args (fill S L) r (fill S' L))
  (hk:∀ e∈B,(e.1,d)∈U→S'[e.2]? = S[e.2]?) (k:aL C (some (U,B,H)) rest Q fr' S'):aL C (some (U,B,H)) (⟨d,.call ⟨.value x,xs,ts⟩,gd⟩::rest) Q fr S:=by
 subst hf ha
 have hc:cls C (.call ⟨.value x,xs,ts⟩)≠3:=by
  simp only [cls]
  split
  ·cases ‹_=Callee.builtin _›
  ·split<;>decide
  ·decide
 have hb:BOk C (some (U,B,H)) (bare (.call ⟨.value x,xs,ts⟩) d) fr.get S r S' :=
  bokH (o:=bare (.call ⟨.value x,xs,ts⟩) d) hc (fun b hb=>by cases hb) hk rfl fun _=>⟨hH,fun L h=>.call x xs ts f as bs r (fill S' L) rfl hx (hL L h)⟩
 simp only [aL,hg,if_true,aOpK,hx]
 exact .inr (.inr ⟨r,S',h,hb,k⟩)
theorem aLH_pure {U:UL} {B:List (Option Nat × Nat)} {H:Holes} {p:FuncId→Bool} {q:Nat→Option UL} {d:Option Nat} {gd:Option (Option Nat × Bool)} {x:Operand} {xs:Array Operand} {ts:Array TypeId} {rest:List LO} {Q:Fr→St→Prop} {fr:Fr} {S:St} {f:FuncId} {as bs args cargs:List AVal} {r:AVal} {fr':Fr}
  (hG:GClosed C) (hc:APure C f cargs r) (hg:wantL gd fr=some true) (hx:aEval (C.wp p q) fr.get x = .fn (.func f) as bs) (ha:as++xs.toList.map (aEval (C.wp p q) fr.get)++bs=args) (he:cargs=args.map era) (hcl:∀ a∈cargs,Closed a) (hf:fr.put d r=fr')
  (k:aL (C.wp p q) (some (U,B,H)) rest Q fr' S):aL (C.wp p q) (some (U,B,H)) (⟨d,.call ⟨.value x,xs,ts⟩,gd⟩::rest) Q fr S :=
 aLH_call hg hx ha (APure.callW hG hc he hcl) hf (fun _ _ h=>h) (fun _ _=>APure.callW hG hc he hcl) (fun _ _ _=>rfl) k
end
end Go.Am
end
