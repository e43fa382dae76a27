/- The abstract layer: strings.Builder: two of its functions by the model's own walk (copyCheck, which turns pointers about; String, which freezes the row's head), as contracts of the layer. -/
import Derived.Test.YtodiaabcaahnjaaGreatDoorAmFreshZ
import Derived.Test.YtodiaabcaahnjaaGreatDoorAmShelf
import Derived.Test.YtodiaabcaahnjaaGreatDoorAmSimp
import Derived.Lib.UnsafeStr
import Derived.Lib.Builder
set_option linter.unusedVariables false
set_option linter.unusedSimpArgs false
namespace Go.Am
open Go
structure BldOk (P:Program) (fc fs:FuncId) (tb te:TypeId):Prop where
 callc:∃ fn,P.funcs[fc]? = some fn∧fn.body.isSome=true∧(fn.name == "runtime.NumGoroutine")=false
 calls:∃ fn,P.funcs[fs]? = some fn∧fn.body.isSome=true∧(fn.name == "runtime.NumGoroutine")=false
 fresh:∀ (b:Nat) (w:World),w.cell? ⟨b,0,none⟩=some (.pointer none)→w.shape? b=some (tb,2)→w.frozen? ⟨b,0,none⟩=false →
  Calls P fc #[.pointer (some ⟨b,0,none⟩)] w fun e w'=>e = .returned (.tuple #[])∧w'=w.setCell ⟨b,0,none⟩ (.pointer (some ⟨b,0,none⟩))
 used:∀ (b:Nat) (w:World),w.cell? ⟨b,0,none⟩=some (.pointer (some ⟨b,0,none⟩)) →
  Calls P fc #[.pointer (some ⟨b,0,none⟩)] w fun e w'=>e = .returned (.tuple #[])∧w'=w
 row:∀ (b g cap:Nat) (cur:Array Value) (l:List UInt8) (w:World),w.cell? ⟨b,1,none⟩=some (.slice (some ⟨g,0,none⟩) l.length cap)→w.heap[g]? = some (.cells cur te (0,0)) →
  l≠[]→l.length≤cap→cap≤maxLen→l.length≤cur.size→(∀ j x,l[j]? = some x→w.cell? ((⟨g,0,none⟩ : Addr).add j)=some (.int .u8 x.toNat)) →
  Calls P fs #[.pointer (some ⟨b,0,none⟩)] w fun e w'=>e = .returned (.string ⟨l.toArray⟩)∧w'=w.drew.freeze ⟨g,0,none⟩ l.length
 nil:∀ (b:Nat) (w:World),w.cell? ⟨b,1,none⟩=some (.slice none 0 0) →
  Calls P fs #[.pointer (some ⟨b,0,none⟩)] w fun e w'=>e = .returned (.string ⟨#[]⟩)∧w'=w.drew
section
variable {C:Cx} {fc fs:FuncId} {tb te:TypeId}
theorem one_arg {E:Env} {i:Nat} {vs:Array Value} (h1:vs.size=([.ptr i 0]:List AVal).length) (h2:∀ j (h:j<([.ptr i 0]:List AVal).length),R E ([.ptr i 0]:List AVal)[j] (vs.getD j undef)) :
  ∃ b,vs = #[.pointer (some ⟨b,0,none⟩)]∧E.mu[i]? = some (some b):=by
 have h:=h2 0 (by simp)
 have hv:vs = #[vs.getD 0 undef]:=by
  apply Array.ext
  ·simpa using h1
  ·intro j a b
   have:j=0:=by simpa using b
   subst this
   simp [Array.getD,a]
 rw [hv]
 generalize vs.getD 0 undef=x at h
 cases h with
 |ptr _ _ b hm hb=>exact ⟨b,rfl,hm⟩
theorem bld_check (hB:BldOk C.P fc fs tb te) {S:St} {i:Nat} {p v:AVal} (hp:p = .nilp∨p = .ptr i 0) (hS:S[i]? = some (.cells [p,v] tb)) :
  ACall C fc [.ptr i 0] S (.tup []) (S.set i (.cells [.ptr i 0,v] tb)):=by
 refine ⟨hB.callc,fun E vs hE hES hvs hrel=>?_⟩
 subst hES
 obtain ⟨b,rfl,hm⟩:=one_arg hvs hrel
 obtain ⟨b',arr,h1,h2,h3,h4⟩:=hE.entry i _ hS
 have:b'=b:=by rw [hm] at h1;injection h1 with h1;injection h1 with h1;exact h1.symm
 subst this
 have h3:arr.size=2:=h3
 have hc0:E.w.cell? ⟨b',0,none⟩=some (arr.getD 0 undef):=by simp [World.cell?,h2,Array.getD,h3]
 have r0:=(h4 0 (by simp)).1
 simp only [List.getElem_cons_zero] at r0
 rcases hp with rfl|rfl
 ·have e0:arr.getD 0 undef = .pointer none:=by
   generalize arr.getD 0 undef=x at r0
   cases r0;rfl
  rw [e0] at hc0
  refine (hB.fresh b' E.w hc0 (by simp [World.shape?,h2,h3]) (by simp [World.frozen?,h2])).mono ?_
  rintro e w' ⟨rfl,rfl⟩
  have hw:(E.w.setCell ⟨b',0,none⟩ (.pointer (some ⟨b',0,none⟩))).heap[b']? = some (.cells (arr.setIfInBounds 0 (.pointer (some ⟨b',0,none⟩))) tb (0,0)):=by
   simp [World.setCell,Array.getElem?_modify,h2]
  obtain ⟨k1,k2⟩:=env_set hE (w':=E.w.setCell ⟨b',0,none⟩ (.pointer (some ⟨b',0,none⟩))) hm
   ⟨rfl,rfl,rfl,by simp [World.setCell],fun k _ hk=>Go.RowKit.Below.heap_setCell _ _ _ _ (fun e=>hk (by simp [e]))⟩ _ (.cells [.ptr i 0,v] tb) hS rfl rfl (fun hext=>by
   refine ⟨b',_,hm,hw,by simp [h3],fun j hj=>?_⟩
   have hj:j=0∨j=1:=by simp at hj;omega
   rcases hj with rfl|rfl
   ·have:(arr.setIfInBounds 0 (.pointer (some ⟨b',0,none⟩))).getD 0 undef = .pointer (some ⟨b',0,none⟩):=by simp [Array.getD,h3]
    rw [this]
    exact ⟨.ptr i 0 b' hm ⟨.cells [.ptr i 0,v] tb,by simp [hE.mu_lt hm],rfl⟩,rfl⟩
   ·have:(arr.setIfInBounds 0 (.pointer (some ⟨b',0,none⟩))).getD 1 undef=arr.getD 1 undef:=by simp [Array.getD,h3]
    rw [this]
    exact ⟨(h4 1 (by simp)).1.ext hE hext,(h4 1 (by simp)).2⟩)
  exact ⟨_,_,rfl,rfl,k2,k1,rfl,.tup _ _ rfl (fun j hj=>by simp at hj)⟩
 ·have e0:arr.getD 0 undef = .pointer (some ⟨b',0,none⟩):=by
   generalize arr.getD 0 undef=x at r0
   cases r0 with
   |ptr _ _ c hc _=>rw [hm] at hc;injection hc with hc;injection hc with hc;rw [hc]
  rw [e0] at hc0
  refine (hB.used b' E.w hc0).mono ?_
  rintro e w' ⟨rfl,rfl⟩
  exact ⟨E,_,rfl,rfl,hE,Ext.refl E,(set_same hS).symm,.tup _ _ rfl (fun j hj=>by simp at hj)⟩
end
theorem env_retire {G:Nat→Option AVal} {E:Env} (hE:Wf G E) {g n sz:Nat} {t:TypeId} {o:Option Nat} {w':World} (hS:E.S[g]? = some (.grow n sz t)) (hm:E.mu[g]? = some o) (hg:E.w.grownBy w' o)
  (hc:∀ b,o=some b→∀ k,w'.cell? ⟨b,k,none⟩=E.w.cell? ⟨b,k,none⟩) :
  Ext E { E with w:=w',mu:=E.mu.set g none,S:=E.S.set g (.grow (n+1) sz t) }∧Wf G { E with w:=w',mu:=E.mu.set g none,S:=E.S.set g (.grow (n+1) sz t) }:=by
 have hgl:g<E.S.length:=(List.getElem?_eq_some_iff.1 hS).1
 have hgm:g<E.mu.length:=by rw [hE.len];exact hgl
 have hmem:∀ (i c:Nat),(E.mu.set g none)[i]? = some (some c)→i≠g∧E.mu[i]? = some (some c):=by
  intro i c h
  by_cases e:g=i
  ·subst e
   rw [List.getElem?_set_self hgm] at h
   cases h
  ·rw [List.getElem?_set_ne e] at h
   exact ⟨Ne.symm e,h⟩
 have hblk:∀ c,c<E.w.heap.size→some c≠o→w'.heap[c]? = E.w.heap[c]?:=fun c h1 h2=>hg.block c h1 h2
 have hother:∀ (j c:Nat),j≠g→E.mu[j]? = some (some c)→w'.heap[c]? = E.w.heap[c]?:=fun j c hj h =>
  hblk c (hE.lt j c h) (fun e=>hj (hE.inj j g c h (by rw [hm,← e])))
 have hxt:Ext E { E with w:=w',mu:=E.mu.set g none,S:=E.S.set g (.grow (n+1) sz t) }:=by
  refine ⟨rfl,rfl,rfl,hg.size,hg.os,hg.tape,hg.output,by simp,fun c hc hf=>⟨fun i h=>hf i (hmem i c h).2,.inl (hblk c hc (fun e=>hf g (by rw [hm,← e])))⟩,fun j z h hz=>?_,fun j n' sz' t' h=>?_,fun j c o' h hc'=>?_⟩
  ·have e:g≠j:=by
    rintro rfl
    rw [hS] at h;injection h with h;subst h;simp [ABox.isGrow] at hz
   exact ⟨List.getElem?_set_ne e,z,(List.getElem?_set_ne e).trans h,hz⟩
  ·by_cases e:g=j
   ·subst e
    rw [hS] at h;injection h with h;injection h with h1 h2 h3
    subst h1 h2 h3
    refine ⟨n+1,List.getElem?_set_self hgl,by omega,fun e=>by omega,fun c hc'=>?_⟩
    have ho:o=some c:=by rw [hm] at hc';injection hc'
    exact ⟨fun k _=>hc c ho k,.inr fun i h=>(hmem i c h).1 (hE.inj i g c (hmem i c h).2 hc')⟩
   ·exact ⟨n',(List.getElem?_set_ne e).trans h,Nat.le_refl _,fun _=>⟨List.getElem?_set_ne e,fun c hc=>hother j c (Ne.symm e) hc⟩,fun c hc=>⟨fun o _=>cell_same (hother j c (Ne.symm e) hc) _ _,.inl ((List.getElem?_set_ne e).trans hc)⟩⟩
  ·have e:g≠j:=by
    rintro rfl
    rw [hS] at h;cases h
   exact ⟨(List.getElem?_set_ne e).trans h,hother j c (Ne.symm e) hc'⟩
 refine ⟨hxt,by simp [hE.len],fun i j b h1 h2=>hE.inj i j b (hmem i b h1).2 (hmem j b h2).2,fun j c h=>Nat.lt_of_lt_of_le (hE.lt j c (hmem j c h).2) hg.size,Nat.le_trans hE.base hg.size,
  fun b o h1 h2 i h=>hE.im b o h1 h2 i (hmem i b h).2,fun j z h=>?_,fun g v h=>(hE.glob g v h).ext hE hxt⟩
 by_cases e:g=j
 ·subst e
  have h:(E.S.set g (.grow (n+1) sz t))[g]? = some z:=h
  rw [List.getElem?_set_self hgl] at h
  injection h with h
  subst h
  exact .inl (List.getElem?_set_self hgm)
 ·have h':E.S[j]? = some z:=(List.getElem?_set_ne e).symm.trans h
  exact (hE.entry j z h').keep hE hxt (List.getElem?_set_ne e) fun c hc=>hother j c (Ne.symm e) hc
section
variable {C:Cx} {fc fs:FuncId} {tb te:TypeId}
theorem freeze_heap {w:World} {g n:Nat} {arr:Array Value} {t:TypeId} (hn:n≠0) (h:w.heap[g]? = some (.cells arr t (0,0))) :
  w.grownBy (w.drew.freeze ⟨g,0,none⟩ n) (some g)∧∀ k,(w.drew.freeze ⟨g,0,none⟩ n).cell? ⟨g,k,none⟩=w.cell? ⟨g,k,none⟩:=by
 have h':w.drew.heap[g]? = some (.cells arr t (0,0)):=h
 constructor
 ·unfold World.freeze
  rw [if_neg hn]
  refine ⟨rfl,rfl,rfl,by simp,fun k hk hne=>?_⟩
  have:g≠k:=fun e=>hne (by rw [e])
  show (w.drew.heap.modify g _)[k]? = w.heap[k]?
  rw [Array.getElem?_modify,if_neg this]
  rfl
 ·intro k
  unfold World.freeze
  rw [if_neg hn]
  simp only [World.cell?,Array.getElem?_modify,if_true,h',h,Option.map_some]
theorem bld_string (hB:BldOk C.P fc fs tb te) {S:St} {i g:Nat} {p:AVal} {bs:List UInt8} (hS:S[i]? = some (.cells [p,.sl 1 bs.isEmpty (bl bs) (.own g)] tb)) (hg:S[g]? = some (.grow bs.length 1 te)) :
  ACall C fs [.ptr i 0] S (.str bs) (S.set g (.grow (bs.length+1) 1 te)):=by
 refine ⟨hB.calls,fun E vs hE hES hvs hrel=>?_⟩
 subst hES
 obtain ⟨b,rfl,hm⟩:=one_arg hvs hrel
 obtain ⟨b',arr,h1,h2,h3,h4⟩:=hE.entry i _ hS
 have:b'=b:=by rw [hm] at h1;injection h1 with h1;injection h1 with h1;exact h1.symm
 subst this
 have h3:arr.size=2:=h3
 have hc1:E.w.cell? ⟨b',1,none⟩=some (arr.getD 1 undef):=by simp [World.cell?,h2,Array.getD,h3]
 have r1:=(h4 1 (by simp)).1
 simp only [List.getElem_cons_succ,List.getElem_cons_zero] at r1
 generalize arr.getD 1 undef=y at r1 hc1
 cases bs with
 |nil =>
  have r1:R E (.sl 1 true [] (.own g)) y:=r1
  cases r1 with
  |slnil _ _ ht =>
   obtain ⟨m,t,hs,_,hh⟩:=ht
   have hs':=hg
   rw [hs] at hs'
   injection hs' with hs'
   injection hs' with e1 e2 e3
   have hmu:E.mu[g]? = some none:=by
    rcases hh e1.symm with ⟨k,_⟩|⟨_,_,_,k,_⟩
    ·exact k
    ·cases k
   refine (hB.nil b' E.w hc1).mono ?_
   rintro e w' ⟨rfl,rfl⟩
   obtain ⟨k1,k2⟩:=env_retire hE (w':=E.w.drew) hg hmu ⟨rfl,rfl,rfl,Nat.le_refl _,fun _ _ _=>rfl⟩ (fun b e=>by cases e)
   exact ⟨_,_,rfl,rfl,k2,k1,rfl,.str _ _ rfl⟩
 |cons x r =>
  have r1:R E (.sl 1 false (bl (x::r)) (.own g)) y:=r1
  generalize hbs:x::r=bs at *
  have hne:bs≠[]:=by rw [← hbs];simp
  have hln:bs.length≠0:=by rw [← hbs];simp
  cases r1 with
  |sl _ _ _ ad n c f hn hc hmx hf hcs hr ht =>
   rw [length_bl] at hn
   subst hn
   obtain ⟨m,t,hs,_,hh⟩:=ht
   have hs':=hg
   rw [hs] at hs'
   injection hs' with hs'
   injection hs' with e1 e2 e3
   subst e3
   rcases hh e1.symm with ⟨_,_,k,_⟩|⟨q,arr2,hmu,had,hq,hqs⟩
   ·exact absurd k hln
   ·injection had with had
    subst had
    have hcell:∀ j u,bs[j]? = some u→E.w.cell? ((⟨q,0,none⟩ : Addr).add j)=some (.int .u8 u.toNat):=by
     intro j u hu
     obtain ⟨hj,hu⟩:=List.getElem?_eq_some_iff.1 hu
     have hjb:j<(bl bs).length:=by rw [length_bl];exact hj
     have hcell:=(hf j (by omega)).2.1
     have e:(bl bs)[j]=bv bs[j]:=by simp [bl]
     have hr':=hr j hjb 0 (by rw [e];exact Nat.one_pos)
     have e':((bl bs)[j]).cells[0]'(by rw [e];exact Nat.one_pos)=bv bs[j]:=by simp only [e];rfl
     rw [e',Nat.mul_one,Nat.add_zero] at hr'
     rw [hcell,hr'.int_inv,hu]
    refine (hB.row b' q c arr2 bs E.w hc1 hq hne hc hmx (by omega) hcell).mono ?_
    rintro e w' ⟨rfl,rfl⟩
    obtain ⟨f1,f2⟩:=freeze_heap (w:=E.w) hln hq
    obtain ⟨k1,k2⟩:=env_retire hE hg hmu f1 (fun b e k=>by injection e with e;subst e;exact f2 k)
    exact ⟨_,_,rfl,rfl,k2,k1,rfl,.str _ _ (by simp)⟩
end
theorem GStep.own {C:Cx} {N:Nat} (i:Nat) (te:TypeId) {fr:Fr} {S:St} {p:AVal} {sz0:Nat} {tg:Tag} {tb:TypeId} (hS:S[i]? = some (.cells [p,.sl sz0 true [] tg] tb)) :
  GStep C N fr S fr (S.set i (.cells [p,.sl 1 true [] (.own S.length)] tb)++[.grow 0 1 te]):=by
 intro E a hE hES hr
 subst hES
 obtain ⟨k1,k2⟩:=env_ghost hE 0 1 te
 have hi:i<E.S.length:=(List.getElem?_eq_some_iff.1 hS).1
 have hS1:(E.S++[ABox.grow 0 1 te])[i]? = some (.cells [p,.sl sz0 true [] tg] tb):=(List.getElem?_append_left hi).trans hS
 obtain ⟨b,arr,h1,h2,h3,h4⟩:=k2.entry i _ hS1
 have hmu:(E.mu++[none])[E.S.length]? = some none:=by rw [← hE.len];simp
 have hset:(E.S++[ABox.grow 0 1 te]).set i (.cells [p,.sl 1 true [] (.own E.S.length)] tb)=E.S.set i (.cells [p,.sl 1 true [] (.own E.S.length)] tb)++[.grow 0 1 te]:=List.set_append_left _ _ hi
 obtain ⟨x1,x2⟩:=env_set k2 (w':=E.w) h1 ⟨rfl,rfl,rfl,Nat.le_refl _,fun _ _ _=>rfl⟩ _ (.cells [p,.sl 1 true [] (.own E.S.length)] tb) hS1 rfl rfl (fun hext=>by
  refine ⟨b,arr,h1,h2,h3,fun j hj=>?_⟩
  have hj:j=0∨j=1:=by simp at hj;omega
  rcases hj with rfl|rfl
  ·exact ⟨(h4 0 (by simp)).1.ext k2 hext,(h4 0 (by simp)).2⟩
  ·have r:=h4 1 (by simp)
   refine ⟨?_,r.2⟩
   have r1:=r.1
   simp only [List.getElem_cons_succ,List.getElem_cons_zero] at r1 ⊢
   generalize arr.getD 1 undef=y at r1
   cases r1 with
   |slnil _ _ _ =>
    refine .slnil _ _ ⟨0,te,?_,Nat.le_refl _,fun _=>.inl ⟨hmu,rfl,rfl,rfl⟩⟩
    show ((E.S++[ABox.grow 0 1 te]).set i _)[E.S.length]? = _
    rw [List.getElem?_set_ne (by omega)]
    simp)
 exact ⟨{ E with mu:=E.mu++[none],S:=(E.S++[ABox.grow 0 1 te]).set i (.cells [p,.sl 1 true [] (.own E.S.length)] tb) },rfl,k1.trans hE x1,x2,hset,hr.ext hE (k1.trans hE x1)⟩
theorem env_ownG {C:Cx} (i k sz:Nat) (te:TypeId) {S:St} {cs:List AVal} {sz0:Nat} {tg:Tag} {tb:TypeId} (hS:S[i]? = some (.cells cs tb)) (hk:cs[k]? = some (.sl sz0 true [] tg)) :
  ∀ E,Wf C.G E→E.S=S→∃ E':Env,E'.w=E.w∧Ext E E'∧Wf C.G E'∧E'.S=S.set i (.cells (cs.set k (.sl sz true [] (.own S.length))) tb)++[.grow 0 sz te]:=by
 intro E hE hES
 subst hES
 obtain ⟨k1,k2⟩:=env_ghost hE 0 sz te
 have hi:i<E.S.length:=(List.getElem?_eq_some_iff.1 hS).1
 have hS1:(E.S++[ABox.grow 0 sz te])[i]? = some (.cells cs tb):=(List.getElem?_append_left hi).trans hS
 obtain ⟨b,arr,h1,h2,h3,h4⟩:=k2.entry i _ hS1
 have hmu:(E.mu++[none])[E.S.length]? = some none:=by rw [← hE.len];simp
 have hset:(E.S++[ABox.grow 0 sz te]).set i (.cells (cs.set k (.sl sz true [] (.own E.S.length))) tb)=E.S.set i (.cells (cs.set k (.sl sz true [] (.own E.S.length))) tb)++[.grow 0 sz te]:=List.set_append_left _ _ hi
 obtain ⟨x1,x2⟩:=env_set k2 (w':=E.w) h1 ⟨rfl,rfl,rfl,Nat.le_refl _,fun _ _ _=>rfl⟩ _ (.cells (cs.set k (.sl sz true [] (.own E.S.length))) tb) hS1 rfl rfl (fun hext=>by
  refine ⟨b,arr,h1,h2,by rw [List.length_set];exact h3,fun j hj=>?_⟩
  have hj':j<cs.length:=by simpa using hj
  by_cases hjk:k=j
  ·subst hjk
   have r:=h4 k hj'
   refine ⟨?_,r.2⟩
   have r1:=r.1
   have e:cs[k] = .sl sz0 true [] tg:=by rw [List.getElem?_eq_getElem hj'] at hk;exact Option.some.inj hk
   rw [e] at r1
   rw [List.getElem_set_self]
   generalize arr.getD k undef=y at r1
   cases r1 with
   |slnil _ _ _ =>
    refine .slnil _ _ ⟨0,te,?_,Nat.le_refl _,fun _=>.inl ⟨hmu,rfl,rfl,rfl⟩⟩
    show ((E.S++[ABox.grow 0 sz te]).set i _)[E.S.length]? = _
    rw [List.getElem?_set_ne (by omega)]
    simp
  ·rw [List.getElem_set_ne hjk]
   exact ⟨(h4 j hj').1.ext k2 hext,(h4 j hj').2⟩)
 exact ⟨{ E with mu:=E.mu++[none],S:=(E.S++[ABox.grow 0 sz te]).set i (.cells (cs.set k (.sl sz true [] (.own E.S.length))) tb) },rfl,k1.trans hE x1,x2,hset⟩
theorem GStep.ownG {C:Cx} {N:Nat} (i k sz:Nat) (te:TypeId) {fr:Fr} {S:St} {cs:List AVal} {sz0:Nat} {tg:Tag} {tb:TypeId} (hS:S[i]? = some (.cells cs tb)) (hk:cs[k]? = some (.sl sz0 true [] tg)) :
  GStep C N fr S fr (S.set i (.cells (cs.set k (.sl sz true [] (.own S.length))) tb)++[.grow 0 sz te]):=fun E a hE hES hr=>by
 obtain ⟨E',h1,h2,h3,h4⟩:=env_ownG (C:=C) i k sz te hS hk E hE hES
 exact ⟨E',h1,h2,h3,h4,hr.ext hE h2⟩
theorem ACall.ownG {C:Cx} {f:FuncId} {args:List AVal} {r:AVal} {S':St} (i k sz:Nat) (te:TypeId) {S:St} {cs:List AVal} {sz0:Nat} {tg:Tag} {tb:TypeId} (hS:S[i]? = some (.cells cs tb)) (hk:cs[k]? = some (.sl sz0 true [] tg))
  (h:ACall C f args (S.set i (.cells (cs.set k (.sl sz true [] (.own S.length))) tb)++[.grow 0 sz te]) r S'):ACall C f args S r S':=by
 refine ⟨h.callable,fun E vs hE hES hvs hr=>?_⟩
 obtain ⟨E1,h1,h2,h3,h4⟩:=env_ownG (C:=C) i k sz te hS hk E hE hES
 refine (h1▸h.ok E1 vs h3 h4 hvs fun j hj=>(hr j hj).ext hE h2).mono ?_
 rintro e w' ⟨E',v,k1,k2,k3,k4,k5,k6⟩
 exact ⟨E',v,k1,k2,k3,h2.trans hE k4,k5,k6⟩
end Go.Am
