/- The abstract layer: what a call leaves behind is known less well: a box's cells, a map's values. -/
import Derived.Test.YteemcehaekffeaaGreatAmDeep
import Derived.Test.YteemcehaekffeaaGreatAmKeep
import Derived.Test.YteemcehaekffeaaGreatAmWalkB
set_option linter.unusedVariables false
set_option linter.unusedSimpArgs false
namespace Go.Am
open Go
noncomputable section
open Classical
theorem env_wkBox {G:Nat→Option AVal} {E:Env} (hE:Wf G E) (i:Nat) (cs':List AVal) {cs:List AVal} {tb:TypeId} (hS:E.S[i]? = some (.cells cs tb)) (hw:Wks cs cs') :
  Ext E { E with S:=E.S.set i (.cells cs' tb) }∧Wf G { E with S:=E.S.set i (.cells cs' tb) }:=by
 obtain ⟨b,arr,h1,h2,h3,h4⟩:=hE.entry i _ hS
 exact env_set hE (w':=E.w) h1 ⟨rfl,rfl,rfl,Nat.le_refl _,fun _ _ _=>rfl⟩ _ (.cells cs' tb) hS rfl rfl (fun hext=>⟨b,arr,h1,h2,by rw [← Wks_length hw];exact h3,fun j hj=>by
  have hj':j<cs.length:=by rw [Wks_length hw];exact hj
  have r:=h4 j hj'
  exact ⟨(r.1.ext hE hext).wk (Wks_get hw j hj' hj),r.2⟩⟩)
def Wke:List (AVal × AVal × Nat)→List (AVal × AVal × Nat)→Prop
 |[],[]=>True
 |a::as,b::bs=>a.1=b.1∧Wk a.2.1 b.2.1∧a.2.2=b.2.2∧Wke as bs
 |_,_=>False
theorem Wke_length:∀ {a b:List (AVal × AVal × Nat)},Wke a b→a.length=b.length
 |[],[],_=>rfl
 |[],_::_,h=>by simp [Wke] at h
 |_::_,[],h=>by simp [Wke] at h
 |x::a,y::b,h=>by
  simp only [Wke] at h
  simp [Wke_length h.2.2.2]
theorem Wke_get:∀ {a b:List (AVal × AVal × Nat)},Wke a b→∀ (j:Nat) (h1:j<a.length) (h2:j<b.length),a[j].1=b[j].1∧Wk a[j].2.1 b[j].2.1∧a[j].2.2=b[j].2.2
 |[],_,_,j,h1,_=>by simp at h1
 |_::_,[],h,_,_,_=>by simp [Wke] at h
 |x::a,y::b,h,0,_,_=>by
  simp only [Wke] at h
  exact ⟨h.1,h.2.1,h.2.2.1⟩
 |x::a,y::b,h,j+1,h1,h2=>by
  simp only [Wke] at h
  exact Wke_get h.2.2.2 j (by simpa using h1) (by simpa using h2)
theorem Wke_app:∀ (p:List (AVal × AVal × Nat)) {a b:List (AVal × AVal × Nat)},Wke a b→Wke (p++a) (p++b)
 |[],_,_,h=>h
 |x::p,_,_,h=>⟨rfl,Wk_refl _,rfl,Wke_app p h⟩
theorem env_wkMap {G:Nat→Option AVal} {E:Env} (hE:Wf G E) (i:Nat) {es es':List (AVal × AVal × Nat)} {c:Nat} (hS:E.S[i]? = some (.mp es c)) (hw:Wke es es') :
  Ext E { E with S:=E.S.set i (.mp es' c) }∧Wf G { E with S:=E.S.set i (.mp es' c) }:=by
 obtain ⟨b,ms,h1,h2,h3,h4⟩:=hE.entry i _ hS
 exact env_set hE (w':=E.w) h1 ⟨rfl,rfl,rfl,Nat.le_refl _,fun _ _ _=>rfl⟩ _ (.mp es' c) hS rfl rfl (fun hext=>⟨b,ms,h1,h2,by rw [← Wke_length hw];exact h3,fun j hj=>by
  have hj':j<es.length:=by rw [Wke_length hw];exact hj
  have r:=h4 j hj'
  have q:=Wke_get hw j hj' hj
  exact ⟨by rw [← q.1];exact r.1.ext hE hext,(r.2.1.ext hE hext).wk q.2.1,by rw [← q.2.2];exact r.2.2⟩⟩)
theorem ACall.post {C:Cx} {f:FuncId} {args:List AVal} {S S' S'':St} {r:AVal} (h:ACall C f args S r S') (g:∀ E:Env,Wf C.G E→E.S=S'→Ext E { E with S:=S'' }∧Wf C.G { E with S:=S'' }):ACall C f args S r S'':=by
 refine ⟨h.callable,fun E vs hE hES hvs hrel=>(h.ok E vs hE hES hvs hrel).mono ?_⟩
 rintro _ _ ⟨E',v,h1,h2,h3,h4,h5,h6⟩
 obtain ⟨g1,g2⟩:=g E' h3 h5
 exact ⟨{ E' with S:=S'' },v,h1,h2,g2,h4.trans hE g1,rfl,h6.ext h3 g1⟩
theorem ACall.wkBox {C:Cx} {f:FuncId} {args:List AVal} {S S':St} {r:AVal} (h:ACall C f args S r S') (i:Nat) (cs':List AVal) {cs:List AVal} {tb:TypeId} (hS:S'[i]? = some (.cells cs tb)) (hw:Wks cs cs'):ACall C f args S r (S'.set i (.cells cs' tb)) :=
 h.post fun E hE hES=>by subst hES;exact env_wkBox hE i cs' hS hw
theorem ACall.wkMap {C:Cx} {f:FuncId} {args:List AVal} {S S':St} {r:AVal} (h:ACall C f args S r S') (i:Nat) {es es':List (AVal × AVal × Nat)} {c:Nat} (hS:S'[i]? = some (.mp es c)) (hw:Wke es es'):ACall C f args S r (S'.set i (.mp es' c)) :=
 h.post fun E hE hES=>by subst hES;exact env_wkMap hE i hS hw
theorem fill_appR {S0:St}:∀ (L:Holes) (J:St),(∀ e∈L,S0.length≤e.1)→fill (S0++J) L=S0++fill J (L.map fun e=>(e.1-S0.length,e.2))
 |[],_,_=>rfl
 |e::L,J,h=>by
  show fill ((S0++J).set e.1 e.2) L=S0++fill (J.set (e.1-S0.length) e.2) (L.map fun e=>(e.1-S0.length,e.2))
  rw [List.set_append_right _ _ (h e (List.mem_cons_self ..)),fill_appR L _ fun e' he'=>h e' (List.mem_cons_of_mem _ he')]
theorem aLH_callR {C:Cx} {U:UL} {B:List (Option Nat × Nat)} {H:Holes} {p:FuncId→Bool} {q:Nat→Option UL} {d:Option Nat} {gd:Option (Option Nat × Bool)} {x:Operand} {xs:Array Operand} {ts:Array TypeId} {rest:List LO} {Q:Fr→St→Prop} {fr:Fr} {S0 S1 T T':St} {f:FuncId} {as bs args cargs:List AVal} {r:AVal} {fr':Fr}
  (hc:∀ R:St,ACall C f cargs (S0++R) r (S1++R)) (J:St) (hp:p f=false) (hlen:S1.length=S0.length) (hHs:∀ e∈H,S0.length≤e.1) (hT:T=S0++J) (hg:wantL gd fr=some true) (hx:aEval (C.wp p q) fr.get x = .fn (.func f) as bs) (ha:as++xs.toList.map (aEval (C.wp p q) fr.get)++bs=args) (he:cargs=args) (hf:fr.put d r=fr') (hT':S1++J=T')
  (hB:∀ e∈B,(e.1,d)∈U→(S1++J)[e.2]? = (S0++J)[e.2]?) (k:aL (C.wp p q) (some (U,B,H)) rest Q fr' T'):aL (C.wp p q) (some (U,B,H)) (⟨d,.call ⟨.value x,xs,ts⟩,gd⟩::rest) Q fr T:=by
 subst hT hT'
 refine aLH_call hg hx ha (he▸(hc J).callX hp) hf (fun e hm h=>?_) (fun L hL=>?_) hB k
 ·rw [List.getElem?_append_right (by have:=hHs e hm;omega)] at h ⊢
  rw [hlen] at h
  exact h
 ·rw [fill_appR L J fun e hm=>hHs e (hL e hm).1,fill_appR (S0:=S1) L J fun e hm=>by have:=hHs e (hL e hm).1;omega,hlen]
  exact he▸(hc _).callX hp
end
end Go.Am
