/- The abstract layer: maps whose entries are told in their order: looked up, written, deleted from, in a walk. -/
import Derived.Test.YteemcehaekffeaaGreatAmWalkB
set_option linter.unusedVariables false
set_option linter.unusedSimpArgs false
namespace Go.Am
open Go
noncomputable section
open Classical
variable {C:Cx}
theorem aL_lookM {d:Option Nat} {gd:Option (Option Nat × Bool)} {t kt et:TypeId} {i j:TI} {m k:Operand} {ok:Bool} {rest:List LO} {Q:Fr→St→Prop} {fr:Fr} {S:St} {b c:Nat} {es:Ents} {kv r:AVal} {fr':Fr}
  (hg:wantL gd fr=some true) (hT:C.T t=some i) (hd:i.d = .map kt et) (hj:C.T et=some j) (hm:aEval C fr.get m = .map b) (hk:aEval C fr.get k=kv) (hS:S[b]? = some (.mp es c))
  (hr:(if ok=true then AVal.tup [lookV kv es (ofCells j j.zero),.bool (findK kv es).isSome] else lookV kv es (ofCells j j.zero))=r) (hf:fr.put d r=fr') (kk:aL C none rest Q fr' S) (hs:keysOk C kt kv es) :
  aL C none (⟨d,.lookup t m k ok,gd⟩::rest) Q fr S:=by
 refine aL_step True.intro hg (sd:=keysOk C kt kv es) (r:=r) ?_ hf kk hs
 subst hk hr
 show aLookup C S t (aEval C fr.get m) (aEval C fr.get k) ok=_
 rw [hm]
 unfold aLookup
 simp only [hT,hd,hj,hS]
theorem aL_updM {d:Option Nat} {gd:Option (Option Nat × Bool)} {t kt et:TypeId} {i:TI} {m k v:Operand} {rest:List LO} {Q:Fr→St→Prop} {fr:Fr} {S S':St} {b c:Nat} {es:Ents} {kv vv:AVal} {fr':Fr}
  (hg:wantL gd fr=some true) (hT:C.T t=some i) (hd:i.d = .map kt et) (hm:aEval C fr.get m = .map b) (hk:aEval C fr.get k=kv) (hv:aEval C fr.get v=vv) (hS:S[b]? = some (.mp es c))
  (hr:S.set b (setK kv vv es c)=S') (hf:fr.put d (.raw undef)=fr') (kk:aL C none rest Q fr' S') (hs:keysOk C kt kv es) :
  aL C none (⟨d,.mapUpdate t m k v,gd⟩::rest) Q fr S:=by
 refine aL_step True.intro hg (sd:=keysOk C kt kv es) (r:=.raw undef) (S':=S') ?_ hf kk hs
 subst hk hv hr
 show aMapUpdate C S t (aEval C fr.get m) (aEval C fr.get k) (aEval C fr.get v)=_
 rw [hm]
 unfold aMapUpdate
 simp only [hT,hd,hS]
theorem aL_delM {d:Option Nat} {gd:Option (Option Nat × Bool)} {t t2 kt et:TypeId} {i:TI} {m k:Operand} {rest:List LO} {Q:Fr→St→Prop} {fr:Fr} {S S':St} {b c:Nat} {es:Ents} {kv:AVal} {fr':Fr}
  (hg:wantL gd fr=some true) (hT:C.T t=some i) (hd:i.d = .map kt et) (hm:aEval C fr.get m = .map b) (hk:aEval C fr.get k=kv) (hS:S[b]? = some (.mp es c))
  (hr:S.set b (delK kv es c)=S') (hf:fr.put d (.tup [])=fr') (kk:aL C none rest Q fr' S') (hs:keysOk C kt kv es) :
  aL C none (⟨d,.call ⟨.builtin .delete,#[m,k],#[t,t2]⟩,gd⟩::rest) Q fr S:=by
 refine aL_step True.intro hg (sd:=keysOk C kt kv es) (r:=.tup []) (S':=S') ?_ hf kk hs
 subst hk hr
 show aDelete C S t (aEval C fr.get m) (aEval C fr.get k)=_
 rw [hm]
 unfold aDelete
 simp only [hT,hd,hS]
end
end Go.Am
