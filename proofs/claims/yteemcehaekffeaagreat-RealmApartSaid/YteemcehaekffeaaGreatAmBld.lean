/- The abstract layer: strings.Builder: two of its functions by the model's own walk (copyCheck, which turns pointers about; String, which freezes the row's head), as contracts of the layer. -/
import Derived.Test.YteemcehaekffeaaGreatAmFreshZ
import Derived.Test.YteemcehaekffeaaGreatAmShelf
import Derived.Test.YteemcehaekffeaaGreatAmSimp
import Derived.Lib.UnsafeStr
import Derived.Lib.Builder
set_option linter.unusedVariables false
set_option linter.unusedSimpArgs false
namespace Go.Am
open Go
structure BldOk (P:Program) (fc fs:FuncId) (tb te:TypeId):Prop where
 callc:∃ fn,P.funcs[fc]? = some fn∧fn.body.isSome=true∧(fn.name == "runtime.NumGoroutine")=false
 calls:∃ fn,P.funcs[fs]? = some fn∧fn.body.isSome=true∧(fn.name == "runtime.NumGoroutine")=false
 fresh:∀ (b:Nat) (w:World),w.cell? ⟨b,0,none⟩=some (.pointer none)→w.shape? b=some (tb,2)→w.frozen? ⟨b,0,none⟩=false →
  Calls P fc #[.pointer (some ⟨b,0,none⟩)] w fun e w'=>e = .returned (.tuple #[])∧w'=w.setCell ⟨b,0,none⟩ (.pointer (some ⟨b,0,none⟩))
 used:∀ (b:Nat) (w:World),w.cell? ⟨b,0,none⟩=some (.pointer (some ⟨b,0,none⟩)) →
  Calls P fc #[.pointer (some ⟨b,0,none⟩)] w fun e w'=>e = .returned (.tuple #[])∧w'=w
 row:∀ (b g cap:Nat) (cur:Array Value) (l:List UInt8) (w:World),w.cell? ⟨b,1,none⟩=some (.slice (some ⟨g,0,none⟩) l.length cap)→w.heap[g]? = some (.cells cur te (0,0)) →
  l≠[]→l.length≤cap→cap≤maxLen→l.length≤cur.size→(∀ j x,l[j]? = some x→w.cell? ((⟨g,0,none⟩ : Addr).add j)=some (.int .u8 x.toNat)) →
  Calls P fs #[.pointer (some ⟨b,0,none⟩)] w fun e w'=>e = .returned (.string ⟨l.toArray⟩)∧w'=w.drew.freeze ⟨g,0,none⟩ l.length
 nil:∀ (b:Nat) (w:World),w.cell? ⟨b,1,none⟩=some (.slice none 0 0) →
  Calls P fs #[.pointer (some ⟨b,0,none⟩)] w fun e w'=>e = .returned (.string ⟨#[]⟩)∧w'=w.drew
section
variable {C:Cx} {fc fs:FuncId} {tb te:TypeId}
end
section
variable {C:Cx} {fc fs:FuncId} {tb te:TypeId}
end
theorem GStep.own {C:Cx} {N:Nat} (i:Nat) (te:TypeId) {fr:Fr} {S:St} {p:AVal} {sz0:Nat} {tg:Tag} {tb:TypeId} (hS:S[i]? = some (.cells [p,.sl sz0 true [] tg] tb)) :
  GStep C N fr S fr (S.set i (.cells [p,.sl 1 true [] (.own S.length)] tb)++[.grow 0 1 te]):=by
 intro E a hE hES hr
 subst hES
 obtain ⟨k1,k2⟩:=env_ghost hE 0 1 te
 have hi:i<E.S.length:=(List.getElem?_eq_some_iff.1 hS).1
 have hS1:(E.S++[ABox.grow 0 1 te])[i]? = some (.cells [p,.sl sz0 true [] tg] tb):=(List.getElem?_append_left hi).trans hS
 obtain ⟨b,arr,h1,h2,h3,h4⟩:=k2.entry i _ hS1
 have hmu:(E.mu++[none])[E.S.length]? = some none:=by rw [← hE.len];simp
 have hset:(E.S++[ABox.grow 0 1 te]).set i (.cells [p,.sl 1 true [] (.own E.S.length)] tb)=E.S.set i (.cells [p,.sl 1 true [] (.own E.S.length)] tb)++[.grow 0 1 te]:=List.set_append_left _ _ hi
 obtain ⟨x1,x2⟩:=env_set k2 (w':=E.w) h1 ⟨rfl,rfl,rfl,Nat.le_refl _,fun _ _ _=>rfl⟩ _ (.cells [p,.sl 1 true [] (.own E.S.length)] tb) hS1 rfl rfl (fun hext=>by
  refine ⟨b,arr,h1,h2,h3,fun j hj=>?_⟩
  have hj:j=0∨j=1:=by simp at hj;omega
  rcases hj with rfl|rfl
  ·exact ⟨(h4 0 (by simp)).1.ext k2 hext,(h4 0 (by simp)).2⟩
  ·have r:=h4 1 (by simp)
   refine ⟨?_,r.2⟩
   have r1:=r.1
   simp only [List.getElem_cons_succ,List.getElem_cons_zero] at r1 ⊢
   generalize arr.getD 1 undef=y at r1
   cases r1 with
   |slnil _ _ _ =>
    refine .slnil _ _ ⟨0,te,?_,Nat.le_refl _,fun _=>.inl ⟨hmu,rfl,rfl,rfl⟩⟩
    show ((E.S++[ABox.grow 0 1 te]).set i _)[E.S.length]? = _
    rw [List.getElem?_set_ne (by omega)]
    simp)
 exact ⟨{ E with mu:=E.mu++[none],S:=(E.S++[ABox.grow 0 1 te]).set i (.cells [p,.sl 1 true [] (.own E.S.length)] tb) },rfl,k1.trans hE x1,x2,hset,hr.ext hE (k1.trans hE x1)⟩
theorem env_ownG {C:Cx} (i k sz:Nat) (te:TypeId) {S:St} {cs:List AVal} {sz0:Nat} {tg:Tag} {tb:TypeId} (hS:S[i]? = some (.cells cs tb)) (hk:cs[k]? = some (.sl sz0 true [] tg)) :
  ∀ E,Wf C.G E→E.S=S→∃ E':Env,E'.w=E.w∧Ext E E'∧Wf C.G E'∧E'.S=S.set i (.cells (cs.set k (.sl sz true [] (.own S.length))) tb)++[.grow 0 sz te]:=by
 intro E hE hES
 subst hES
 obtain ⟨k1,k2⟩:=env_ghost hE 0 sz te
 have hi:i<E.S.length:=(List.getElem?_eq_some_iff.1 hS).1
 have hS1:(E.S++[ABox.grow 0 sz te])[i]? = some (.cells cs tb):=(List.getElem?_append_left hi).trans hS
 obtain ⟨b,arr,h1,h2,h3,h4⟩:=k2.entry i _ hS1
 have hmu:(E.mu++[none])[E.S.length]? = some none:=by rw [← hE.len];simp
 have hset:(E.S++[ABox.grow 0 sz te]).set i (.cells (cs.set k (.sl sz true [] (.own E.S.length))) tb)=E.S.set i (.cells (cs.set k (.sl sz true [] (.own E.S.length))) tb)++[.grow 0 sz te]:=List.set_append_left _ _ hi
 obtain ⟨x1,x2⟩:=env_set k2 (w':=E.w) h1 ⟨rfl,rfl,rfl,Nat.le_refl _,fun _ _ _=>rfl⟩ _ (.cells (cs.set k (.sl sz true [] (.own E.S.length))) tb) hS1 rfl rfl (fun hext=>by
  refine ⟨b,arr,h1,h2,by rw [List.length_set];exact h3,fun j hj=>?_⟩
  have hj':j<cs.length:=by simpa using hj
  by_cases hjk:k=j
  ·subst hjk
   have r:=h4 k hj'
   refine ⟨?_,r.2⟩
   have r1:=r.1
   have e:cs[k] = .sl sz0 true [] tg:=by rw [List.getElem?_eq_getElem hj'] at hk;exact Option.some.inj hk
   rw [e] at r1
   rw [List.getElem_set_self]
   generalize arr.getD k undef=y at r1
   cases r1 with
   |slnil _ _ _ =>
    refine .slnil _ _ ⟨0,te,?_,Nat.le_refl _,fun _=>.inl ⟨hmu,rfl,rfl,rfl⟩⟩
    show ((E.S++[ABox.grow 0 sz te]).set i _)[E.S.length]? = _
    rw [List.getElem?_set_ne (by omega)]
    simp
  ·rw [List.getElem_set_ne hjk]
   exact ⟨(h4 j hj').1.ext k2 hext,(h4 j hj').2⟩)
 exact ⟨{ E with mu:=E.mu++[none],S:=(E.S++[ABox.grow 0 sz te]).set i (.cells (cs.set k (.sl sz true [] (.own E.S.length))) tb) },rfl,k1.trans hE x1,x2,hset⟩
end Go.Am
