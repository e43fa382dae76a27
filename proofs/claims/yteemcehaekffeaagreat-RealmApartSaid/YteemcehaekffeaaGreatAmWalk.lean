/- The abstract layer: the walk's rules, one an operation. -/
import Derived.Test.YteemcehaekffeaaGreatAmYield
set_option linter.unusedVariables false
set_option linter.unusedSimpArgs false
namespace Go.Am
open Go
noncomputable section
open Classical
variable {C:Cx} {N:Nat}
theorem aL_nil {Q:Fr→St→Prop} {fr:Fr} {S:St} (k:Q fr S):aL C none [] Q fr S:=k
theorem aL_step {d:Option Nat} {op:Op} {gd:Option (Option Nat × Bool)} {rest:List LO} {Q:Fr→St→Prop} {fr:Fr} {S:St} {sd:Prop} {r:AVal} {S':St} {fr':Fr}
  (hop:(match op with|.call ⟨.value _,_,_⟩=>False|_=>True)) (hg:wantL gd fr=some true) (h:aStep C op fr.get S=some ⟨sd,r,S'⟩) (hf:fr.put d r=fr') (k:aL C none rest Q fr' S') (hs:sd) :
  aL C none (⟨d,op,gd⟩::rest) Q fr S:=by
 simp only [aL,hg,if_true,aOpK]
 subst hf
 refine .inr (.inr ?_)
 split
 ·exact hop.elim
 ·rw [h];exact ⟨hs,True.intro,k⟩
theorem aL_appR {d:Option Nat} {x v:Operand} {t tx:TypeId} {gd:Option (Option Nat × Bool)} {rest:List LO} {Q:Fr→St→Prop} {fr:Fr} {S:St} {sd:Prop} {r:AVal} {S':St} {fr':Fr} {av aw:AVal}
  (hg:wantL gd fr=some true) (hx:aEval C fr.get x=av) (hv:aEval C fr.get v=aw) (h:aAppR C S t tx av aw=some ⟨sd,r,S'⟩) (hf:fr.put d r=fr') (hs:sd) (k:aL C none rest Q fr' S') :
  aL C none (⟨d,.call { callee:=.builtin .append,args := #[x,v],argTypes := #[t,tx] },gd⟩::rest) Q fr S:=by
 subst hf hx hv
 simp only [aL,hg,if_true,aOpK]
 exact .inr (.inl (.inr (.inl ⟨x,v,t,tx,_,rfl,.inl h,hs,True.intro,k⟩)))
theorem aL_litW {d:Option Nat} {t:TypeId} {n:Nat} {parts:Array (Nat × Operand)} {gd:Option (Option Nat × Bool)} {rest:List LO} {Q:Fr→St→Prop} {fr:Fr} {S:St} {e:TypeId} {i j:TI} {out:List AVal} {fr':Fr}
  (hn:nought n parts=true) (hg:wantL gd fr=some true) (hi:C.T t=some i) (hd:i.d = .slice e) (hj:C.T e=some j) (hl:setElems j.size (List.replicate n (ofCells j j.zero)) (parts.toList.map fun p=>(p.1,aEval C fr.get p.2))=some out)
  (hf:fr.put d (.view S.length 0 n n)=fr') (k:aL C none rest Q fr' (S++[.cells (flatC out) e])) (hb:0<j.size∧n*j.size≤16777216∧∀ p∈parts.toList,(aEval C fr.get p.2).okc) :
  aL C none (⟨d,.buildSlice t n parts,gd⟩::rest) Q fr S:=by
 subst hf
 simp only [aL,hg,if_true,aOpK]
 exact .inr (.inl (.inr (.inr (.inl ⟨t,e,n,parts,i,j,out,rfl,hn,hi,hd,hj,hl,hb,True.intro,k⟩))))
theorem aL_skip {o:LO} {rest:List LO} {Q:Fr→St→Prop} {fr:Fr} {S:St} {fr':Fr}
  (hg:wantL o.gd fr=some false) (hf:fr.put o.d (.raw undef)=fr') (k:aL C none rest Q fr' S):aL C none (o::rest) Q fr S:=by
 subst hf
 simp only [aL,hg,Bool.false_eq_true,if_false]
 exact k
theorem aL_call {d:Option Nat} {gd:Option (Option Nat × Bool)} {x:Operand} {xs:Array Operand} {ts:Array TypeId} {rest:List LO} {Q:Fr→St→Prop} {fr:Fr} {S:St} {f:FuncId} {as bs args:List AVal} {r:AVal} {S':St} {fr':Fr}
  (hg:wantL gd fr=some true) (hx:aEval C fr.get x = .fn (.func f) as bs) (ha:as++xs.toList.map (aEval C fr.get)++bs=args) (h:CallX C f args S r S') (hf:fr.put d r=fr') (k:aL C none rest Q fr' S') :
  aL C none (⟨d,.call ⟨.value x,xs,ts⟩,gd⟩::rest) Q fr S:=by
 subst hf ha
 simp only [aL,hg,if_true,aOpK,hx]
 exact .inr (.inr ⟨r,S',h,True.intro,k⟩)
theorem aL_pure {p:FuncId→Bool} {q:Nat→Option UL} {d:Option Nat} {gd:Option (Option Nat × Bool)} {x:Operand} {xs:Array Operand} {ts:Array TypeId} {rest:List LO} {Q:Fr→St→Prop} {fr:Fr} {S:St} {f:FuncId} {as bs args cargs:List AVal} {r:AVal} {fr':Fr}
  (hG:GClosed C) (hc:APure C f cargs r) (hg:wantL gd fr=some true) (hx:aEval (C.wp p q) fr.get x = .fn (.func f) as bs) (ha:as++xs.toList.map (aEval (C.wp p q) fr.get)++bs=args) (he:cargs=args.map era) (hcl:∀ a∈cargs,Closed a) (hf:fr.put d r=fr') (k:aL (C.wp p q) none rest Q fr' S) :
  aL (C.wp p q) none (⟨d,.call ⟨.value x,xs,ts⟩,gd⟩::rest) Q fr S :=
 aL_call hg hx ha (APure.callW hG hc he hcl) hf k
theorem aL_acall {p:FuncId→Bool} {q:Nat→Option UL} {d:Option Nat} {gd:Option (Option Nat × Bool)} {x:Operand} {xs:Array Operand} {ts:Array TypeId} {rest:List LO} {Q:Fr→St→Prop} {fr:Fr} {S S':St} {f:FuncId} {as bs args cargs:List AVal} {r:AVal} {fr':Fr}
  (hc:ACall C f cargs S r S') (hp:p f=false) (hg:wantL gd fr=some true) (hx:aEval (C.wp p q) fr.get x = .fn (.func f) as bs) (ha:as++xs.toList.map (aEval (C.wp p q) fr.get)++bs=args) (he:cargs=args) (hf:fr.put d r=fr') (k:aL (C.wp p q) none rest Q fr' S') :
  aL (C.wp p q) none (⟨d,.call ⟨.value x,xs,ts⟩,gd⟩::rest) Q fr S :=
 aL_call hg hx ha (he▸hc.callX hp) hf k
theorem aL_pK {p:FuncId→Bool} {q:Nat→Option UL} {d:Option Nat} {gd:Option (Option Nat × Bool)} {xs:Array Operand} {ts:Array TypeId} {rest:List LO} {Q:Fr→St→Prop} {fr:Fr} {S:St} {f:FuncId} {args:List AVal} {r:AVal} {fr':Fr}
  (hG:GClosed C) (hc:APure C f args r) (hg:wantL gd fr=some true) (ha:(xs.toList.map fun o=>era (aEval (C.wp p q) fr.get o))=args) (hf:fr.put d r=fr') (hcl:∀ a∈args,Closed a) (k:aL (C.wp p q) none rest Q fr' S) :
  aL (C.wp p q) none (⟨d,.call ⟨.value (.func f),xs,ts⟩,gd⟩::rest) Q fr S :=
 aL_pure hG hc hg (as:=[]) (bs:=[]) rfl rfl (by rw [← ha];simp) hcl hf k
theorem aL_aK {p:FuncId→Bool} {q:Nat→Option UL} {d:Option Nat} {gd:Option (Option Nat × Bool)} {xs:Array Operand} {ts:Array TypeId} {rest:List LO} {Q:Fr→St→Prop} {fr:Fr} {S S':St} {f:FuncId} {args:List AVal} {r:AVal} {fr':Fr}
  (hc:ACall C f args S r S') (hp:p f=false) (hg:wantL gd fr=some true) (ha:xs.toList.map (aEval (C.wp p q) fr.get)=args) (hf:fr.put d r=fr') (k:aL (C.wp p q) none rest Q fr' S') :
  aL (C.wp p q) none (⟨d,.call ⟨.value (.func f),xs,ts⟩,gd⟩::rest) Q fr S :=
 aL_acall hc hp hg (as:=[]) (bs:=[]) rfl rfl (by rw [← ha];simp) hf k
theorem aL_guardN {o:LO} {rest:List LO} {Q:Fr→St→Prop} {fr:Fr} {S:St} {p:Prop} {inst:Decidable (¬ p)}
  (_hg:wantL o.gd fr=some (@decide (¬ p) inst)) (k1:p→aL C none (o::rest) Q fr S) (k2:¬ p→aL C none (o::rest) Q fr S):aL C none (o::rest) Q fr S:=by
 by_cases h:p
 ·exact k1 h
 ·exact k2 h
theorem aL_guardP {o:LO} {rest:List LO} {Q:Fr→St→Prop} {fr:Fr} {S:St} {p:Prop} {inst:Decidable p}
  (_hg:wantL o.gd fr=some (@decide p inst)) (k1:p→aL C none (o::rest) Q fr S) (k2:¬ p→aL C none (o::rest) Q fr S):aL C none (o::rest) Q fr S:=by
 by_cases h:p
 ·exact k1 h
 ·exact k2 h
theorem aC_skip {Q:Post} {fr:Fr} {S:St} (k:Q .normal fr S):aC C N .skip Q fr S:=k
theorem aC_reg {id:Nat} {ops:List LO} {Q:Post} {fr:Fr} {S:St} (hb:C.bm id=none) (k:aL C none ops (Q .normal) fr S):aC C N (.reg id ops) Q fr S:=by
 simp only [aC,hb,Bool.false_eq_true,if_false];exact k
theorem aC_seq {a b:LC} {Q:Post} {fr:Fr} {S:St} (k:aC C N a (thenQ (aC C N b Q) Q) fr S):aC C N (.seq a b) Q fr S:=k
theorem aC_block {id:Nat} {a:LC} {Q:Post} {fr:Fr} {S:St} (k:aC C N a (blockQ id Q) fr S):aC C N (.block id a) Q fr S:=k
theorem aC_loop {a:LC} {Q:Post} {fr:Fr} {S:St} (k:ALoop C N a Q fr S):aC C N (.loop a) Q fr S:=k
theorem aC_exit {id:Nat} {Q:Post} {fr:Fr} {S:St} (k:Q (.exit id) fr S):aC C N (.exit id) Q fr S:=k
theorem aC_ret {Q:Post} {fr:Fr} {S:St} (k:Q .ret fr S):aC C N .ret Q fr S:=k
theorem aC_condT {c:Operand} {a b:LC} {Q:Post} {fr:Fr} {S:St} (h:aEval C fr.get c = .bool true) (k:aC C N a Q fr S):aC C N (.cond c a b) Q fr S:=by
 simp only [aC,h,if_true];exact k
theorem aC_condF {c:Operand} {a b:LC} {Q:Post} {fr:Fr} {S:St} (h:aEval C fr.get c = .bool false) (k:aC C N b Q fr S):aC C N (.cond c a b) Q fr S:=by
 simp only [aC,h,Bool.false_eq_true,if_false];exact k
theorem aC_cond {c:Operand} {a b:LC} {Q:Post} {fr:Fr} {S:St} {t:Bool} (h:aEval C fr.get c = .bool t) (k1:t=true→aC C N a Q fr S) (k2:t=false→aC C N b Q fr S):aC C N (.cond c a b) Q fr S:=by
 simp only [aC,h]
 cases t
 ·exact k2 rfl
 ·exact k1 rfl
theorem aC_condP {c:Operand} {a b:LC} {Q:Post} {fr:Fr} {S:St} {p:Prop} {inst:Decidable p} (h:aEval C fr.get c = .bool (@decide p inst)) (k1:p→aC C N a Q fr S) (k2:¬ p→aC C N b Q fr S):aC C N (.cond c a b) Q fr S :=
 aC_cond h (fun e=>k1 (of_decide_eq_true e)) (fun e=>k2 (of_decide_eq_false e))
theorem aC_scope {a:LC} {Q:Post} {fr:Fr} {S:St} (k:aC C N a (scopeQ Q) fr S):aC C N (.scope a) Q fr S:=k
theorem scopeQ_normal {Q:Post} {fr:Fr} {S:St} (k:Q .normal fr S):scopeQ Q .normal fr S:=k
theorem scopeQ_exit {Q:Post} {i:Nat} {fr:Fr} {S:St} (k:Q (.exit i) fr S):scopeQ Q (.exit i) fr S:=k
theorem scopeQ_ret {Q:Post} {fr:Fr} {S:St} (k:Q .ret fr S):scopeQ Q .ret fr S:=k
theorem thenQ_normal {K:Fr→St→Prop} {Q:Post} {fr:Fr} {S:St} (k:K fr S):thenQ K Q .normal fr S:=k
theorem thenQ_exit {K:Fr→St→Prop} {Q:Post} {i:Nat} {fr:Fr} {S:St} (k:Q (.exit i) fr S):thenQ K Q (.exit i) fr S:=k
theorem thenQ_ret {K:Fr→St→Prop} {Q:Post} {fr:Fr} {S:St} (k:Q .ret fr S):thenQ K Q .ret fr S:=k
theorem blockQ_normal {id:Nat} {Q:Post} {fr:Fr} {S:St} (k:Q .normal fr S):blockQ id Q .normal fr S:=k
theorem blockQ_ret {id:Nat} {Q:Post} {fr:Fr} {S:St} (k:Q .ret fr S):blockQ id Q .ret fr S:=k
theorem blockQ_hit {id:Nat} {Q:Post} {fr:Fr} {S:St} (k:Q .normal fr S):blockQ id Q (.exit id) fr S:=by simpa [blockQ] using k
theorem blockQ_miss {id i:Nat} {Q:Post} {fr:Fr} {S:St} (h:(i==id)=false) (k:Q (.exit i) fr S):blockQ id Q (.exit i) fr S:=by
 have h:i≠id:=by simpa using h
 simpa [blockQ,h] using k
end
end Go.Am
