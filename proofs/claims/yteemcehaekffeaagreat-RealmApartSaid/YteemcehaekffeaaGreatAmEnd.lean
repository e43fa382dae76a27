/- The abstract layer: a call whose end is known by a relation; a map that it has made, its order forgotten; what it leaves behind let go. -/
import Derived.Test.YteemcehaekffeaaGreatAmGo
import Derived.Test.YteemcehaekffeaaGreatAmPost
import Derived.Test.YteemcehaekffeaaGreatAmFreshZ
set_option linter.unusedVariables false
set_option linter.unusedSimpArgs false
namespace Go.Am
open Go
noncomputable section
open Classical
theorem blt_mono {i m n:Nat} (h:Nat.blt i m=true) (hmn:m≤n):Nat.blt i n=true:=by
 have:=blt_iff.1 h
 exact blt_iff.2 (by omega)
theorem belT_mono {m n:Nat} (hmn:m≤n):∀ {t:Tag},belT m t=true→belT n t=true
 |.grow _,h=>blt_mono h hmn
 |.own _,h=>blt_mono h hmn
 |.lit,h=>blt_mono h hmn
 |.any,_=>rfl
 |.full,_=>rfl
mutual
theorem bel_mono {m n:Nat} (hmn:m≤n):∀ (v:AVal),bel m v=true→bel n v=true
 |.ptr _ _,h=>blt_mono h hmn
 |.view _ _ _ _,h=>blt_mono h hmn
 |.vrow _ _ _,h=>blt_mono h hmn
 |.ms _ _ _,h=>blt_mono h hmn
 |.map _,h=>blt_mono h hmn
 |.yld _,h=>blt_mono h hmn
 |.room _ _ _ _,h=>blt_mono h hmn
 |.cptr cs,h=>bels_mono hmn cs h
 |.sl _ _ xs tg,h=>by
  simp only [bel,Bool.and_eq_true] at h ⊢
  exact ⟨belT_mono hmn h.1,bels_mono hmn xs h.2⟩
 |.fn _ as bs,h=>by
  simp only [bel,Bool.and_eq_true] at h ⊢
  exact ⟨bels_mono hmn as h.1,bels_mono hmn bs h.2⟩
 |.ifc _ v,h=>bel_mono hmn v h
 |.agg cs,h=>bels_mono hmn cs h
 |.tup vs,h=>bels_mono hmn vs h
 |.any,_=>rfl
 |.raw _,_=>rfl
 |.int _ _,_=>rfl
 |.bool _,_=>rfl
 |.str _,_=>rfl
 |.nilp,_=>rfl
 |.nilmap,_=>rfl
 |.nilfn,_=>rfl
 |.nilifc,_=>rfl
theorem bels_mono {m n:Nat} (hmn:m≤n):∀ (vs:List AVal),bels m vs=true→bels n vs=true
 |[],_=>rfl
 |v::vs,h=>by
  simp only [bels,Bool.and_eq_true] at h ⊢
  exact ⟨bel_mono hmn v h.1,bels_mono hmn vs h.2⟩
end
theorem belQ_mono {m n:Nat} (hmn:m≤n):∀ {x:ABox},belQ m x→belQ n x
 |.loop _ _ _ _ _ _ _ _,h=>fun t=>bel_mono hmn _ (h t)
 |.cells cs _,h=>bels_mono hmn cs h
 |.row cs _,h=>bels_mono hmn cs h
 |.grow _ _ _,_=>rfl
 |.hole,_=>rfl
 |.dead,_=>rfl
 |.siter _ _,_=>rfl
 |.mp _ _,h=>belM_iff fun e he=>⟨bel_mono hmn _ (belM_get h e he).1,bel_mono hmn _ (belM_get h e he).2⟩
 |.mpx _ _,h=>belP_iff fun e he=>⟨bel_mono hmn _ (belP_get h e he).1,bel_mono hmn _ (belP_get h e he).2⟩
 |.frz none,_=>rfl
 |.frz (some _),h=>belP_iff fun e he=>⟨bel_mono hmn _ (belP_get h e he).1,bel_mono hmn _ (belP_get h e he).2⟩
 |.iter none _ _ _,_=>rfl
 |.iter (some _) _ _ _,h=>blt_mono h hmn
structure ACallP (C:Cx) (f:FuncId) (args:List AVal) (S:St) (K:AVal→St→Prop):Prop where
 callable:∃ fn,C.P.funcs[f]? = some fn∧fn.body.isSome=true∧(fn.name == "runtime.NumGoroutine")=false
 ok:∀ (E:Env) (vs:Array Value),Wf C.G E→E.S=S→vs.size=args.length→(∀ j (h:j<args.length),R E args[j] (vs.getD j undef)) →
  Calls C.P f vs E.w fun e w'=>∃ E' x v,e = .returned x∧E'.w=w'∧Wf C.G E'∧Ext E E'∧R E' v x∧K v E'.S
theorem oQ {C:Cx} [CxG C] {f:FuncId} {l:LC} {n:Nat} {rs:List ResultVar} {q:Nat→Option UL} {args:List AVal} {S:St} {K:AVal→St→Prop} (h:Fq C f l n rs q)
  (k:aC (C.wp C.pc q) n l (fun e fr T=>isRet e∧match aRes C fr T rs with|some (sd,v)=>sd∧K v T|none=>False) (frame0 args) S) (hl:Nat.ble args.length n=true:=by first|exact rfl|fail):ACallP C f args S K :=
 ⟨h.fn.callable,fun E vs hE hES hvs hrel=>calls_body CxG.ok h.fn C.pc q h.bd (Nat.le_of_ble_eq_true hl) k E vs hE hES hvs hrel⟩
theorem env_mpx {G:Nat→Option AVal} {E:Env} (hE:Wf G E) (i:Nat) {es:List (AVal × AVal)} {es':List (AVal × AVal × Nat)} {c:Nat} (hS:E.S[i]? = some (.mp es' c)) (hx:MX es es' c) :
  Ext E { E with S:=E.S.set i (.mpx es c) }∧Wf G { E with S:=E.S.set i (.mpx es c) }:=by
 obtain ⟨b,ms,h1,h2,h3,h4⟩:=hE.entry i _ hS
 exact env_set hE (w':=E.w) h1 ⟨rfl,rfl,rfl,Nat.le_refl _,fun _ _ _=>rfl⟩ _ (.mpx es c) hS rfl rfl (fun hext=>⟨es',hx,b,ms,h1,h2,h3,fun j hj=>⟨(h4 j hj).1.ext hE hext,(h4 j hj).2.1.ext hE hext,(h4 j hj).2.2⟩⟩)
theorem ACallP.mpx {C:Cx} (hG:GClosed C) {f:FuncId} {args:List AVal} {S A B:St} {r:AVal} {es:List (AVal × AVal)} {c:Nat}
  (h:ACallP C f args S fun v T=>v=r∧∃ es' J,MX es es' c∧T=A++(.mp es' c::B++J)) (hn:S.length≤(A++(.mpx es c::B)).length) (h0:0<S.length) (hr:bel (A++(.mpx es c::B)).length r=true)
  (hB:∀ (i:Nat) (x:ABox),(A++(.mpx es c::B))[i]? = some x→(S[i]? = some x)∨belB (A++(.mpx es c::B)).length x=true):ACall C f args S r (A++(.mpx es c::B)):=by
 refine ⟨h.callable,fun E vs hE hES hvs hrel=>(h.ok E vs hE hES hvs hrel).mono ?_⟩
 rintro _ _ ⟨E',x,v,h1,h2,h3,h4,h5,h6,es',J,hx,h7⟩
 subst h6
 have hi:E'.S[A.length]? = some (.mp es' c):=by rw [h7,List.getElem?_append_right (Nat.le_refl _)];simp
 obtain ⟨g1,g2⟩:=env_mpx h3 A.length hi hx
 have hset:E'.S.set A.length (.mpx es c)=(A++(.mpx es c::B))++J:=by
  rw [h7,List.set_append_right _ _ (Nat.le_refl _)]
  simp
 generalize hN:(A++(ABox.mpx es c::B)).length=n at *
 refine ⟨Env.cut { E' with S:=E'.S.set A.length (.mpx es c) } n,x,h1,h2,env_cutQ hG g2 fun i y hin hy=>?_,ext_cut (h4.trans hE g1) (by rw [hES];exact hn),?_,(h5.ext h3 g1).cut g2 hr⟩
 ·have hy:(E'.S.set A.length (.mpx es c))[i]? = some y:=hy
  rw [hset,List.getElem?_append_left (by omega)] at hy
  rcases hB i y hy with k|k
  ·have hil:i<S.length:=(List.getElem?_eq_some_iff.1 k).1
   have:=(hE.entry i y (by rw [hES];exact k)).bel (by rw [hES];exact h0)
   rw [hES] at this
   exact belQ_mono hn this
  ·exact .of_belB k
 ·show (E'.S.set A.length (.mpx es c)).take n=_
  rw [hset,← hN,List.take_left']
  rfl
theorem ACallP.keep {C:Cx} (hG:GClosed C) {f:FuncId} {args:List AVal} {S B:St} {r:AVal} (h:ACallP C f args S fun v T=>v=r∧∃ J,T=B++J) (h0:0<S.length) (hl:S.length≤B.length) (hr:bel B.length r=true)
  (hB:∀ (i:Nat) (x:ABox),B[i]? = some x→S[i]? = some x∨belB B.length x=true):ACall C f args S r B:=by
 refine ⟨h.callable,fun E vs hE hES hvs hrel=>(h.ok E vs hE hES hvs hrel).mono ?_⟩
 rintro _ _ ⟨E',x,v,h1,h2,h3,h4,h5,h6,J,h7⟩
 subst h6
 refine ⟨E'.cut B.length,x,h1,h2,env_cutQ hG h3 fun i y hin hy=>?_,ext_cut h4 (by rw [hES];exact hl),?_,h5.cut h3 hr⟩
 ·rw [h7,List.getElem?_append_left hin] at hy
  rcases hB i y hy with k|k
  ·have:=(hE.entry i y (by rw [hES];exact k)).bel (by rw [hES];exact h0)
   rw [hES] at this
   exact belQ_mono hl this
  ·exact .of_belB k
 ·show E'.S.take B.length=_
  rw [h7,List.take_left']
  rfl
theorem ACallP.same {C:Cx} (hG:GClosed C) {f:FuncId} {args:List AVal} {S:St} {r:AVal} (h:ACallP C f args S fun v T=>v=r∧∃ J,T=S++J) (h0:0<S.length) (hr:bel S.length r=true):ACall C f args S r S :=
 h.keep hG h0 (Nat.le_refl _) hr fun _ _ k=>.inl k
theorem env_mp {G:Nat→Option AVal} {E:Env} (hE:Wf G E) (i:Nat) {es:List (AVal × AVal)} {c:Nat} (hS:E.S[i]? = some (.mpx es c)) :
  ∃ es',MX es es' c∧Ext E { E with S:=E.S.set i (.mp es' c) }∧Wf G { E with S:=E.S.set i (.mp es' c) }:=by
 obtain ⟨es',hx,b,ms,h1,h2,h3,h4⟩:=hE.entry i _ hS
 exact ⟨es',hx,env_set hE (w':=E.w) h1 ⟨rfl,rfl,rfl,Nat.le_refl _,fun _ _ _=>rfl⟩ _ (.mp es' c) hS rfl rfl (fun hext=>⟨b,ms,h1,h2,h3,fun j hj=>⟨(h4 j hj).1.ext hE hext,(h4 j hj).2.1.ext hE hext,(h4 j hj).2.2⟩⟩)⟩
theorem ACall.anyX {C:Cx} {f:FuncId} {args:List AVal} {S S':St} {r:AVal} {i:Nat} {es es2:List (AVal × AVal)} {c c2:Nat} (hS:S[i]? = some (.mpx es c)) (hS':S'[i]? = some (.mpx es2 c2))
  (h:∀ es',MX es es' c→∃ es2',MX es2 es2' c2∧ACall C f args (S.set i (.mp es' c)) r (S'.set i (.mp es2' c2))) (hne:∃ es',MX es es' c):ACall C f args S r S':=by
 obtain ⟨e0,he0⟩:=hne
 obtain ⟨_,_,h0⟩:=h e0 he0
 refine ⟨h0.callable,fun E vs hE hES hvs hrel=>?_⟩
 obtain ⟨es',hx,g1,g2⟩:=env_mp hE i (by rw [hES];exact hS)
 obtain ⟨es2',hx2,hc⟩:=h es' hx
 have hil:i<S'.length:=(List.getElem?_eq_some_iff.1 hS').1
 refine (hc.ok { E with S:=E.S.set i (.mp es' c) } vs g2 (by show E.S.set i _=_;rw [hES]) hvs fun j hj=>(hrel j hj).ext hE g1).mono ?_
 rintro _ _ ⟨E',x,h1,h2,h3,h4,h5,h6⟩
 have hi:E'.S[i]? = some (.mp es2' c2):=by rw [h5,List.getElem?_set_self hil]
 obtain ⟨k1,k2⟩:=env_mpx h3 i hi hx2
 refine ⟨{ E' with S:=E'.S.set i (.mpx es2 c2) },x,h1,h2,k2,(g1.trans hE h4).trans hE k1,?_,h6.ext h3 k1⟩
 show E'.S.set i _=S'
 rw [h5,List.set_set]
 refine List.ext_getElem? fun j=>?_
 by_cases e:i=j
 ·subst e;rw [List.getElem?_set_self hil,hS']
 ·rw [List.getElem?_set_ne e]
theorem loop_ruleE {C:Cx} {N:Nat} (hC:C.Ok) (hG:GClosed C) {l:LC} {Q:Post} {σ:Type} (I:σ→Fr) (T:σ→St) (m:σ→Nat) (J:σ→Prop) {fr:Fr} {S:St} (n0:Nat) (s0:σ) (h0:J s0∧Sub fr (I s0)∧S=T s0)
  (hn:S.length≤n0) (hp:0<S.length) (hT:∀ s,J s→(∀ (i:Nat) (x:ABox),(T s)[i]? = some x→S[i]? = some x∨belB n0 x=true)∧belF n0 (I s)=true)
  (round:∀ s,J s→aC C N l (thenQ (fun fr' S'=>∃ s',J s'∧Sub fr' (I s')∧S'.take n0=T s'∧m s'<m s) Q) (I s) (T s)):ALoop C N l Q fr S:=by
 intro c hl hok F n hF hro E a hE hS hr
 refine wpIn_loop_ind (fun k a' w'=>∃ E' s,E'.w=w'∧Wf C.G E'∧Ext E E'∧J s∧E'.S=T s∧RF E' N (I s).get a'∧m s=k) ?_ (k:=m s0) ⟨E,s0,rfl,hE,Ext.refl E,h0.1,hS.trans h0.2.2,hr.sub h0.2.1,rfl⟩
 rintro k a' w' ⟨E',s,rfl,h2,h3,h4,h5,h6,rfl⟩
 refine wpIn_mono (aC_sound hC c _ (I s) (T s) hok (by rw [hl];exact round s h4) F n hF (by simpa [noRF] using hro) E' a' h2 h5 h6) ?_
 rintro e a2 w2 ⟨E2,fr2,rfl,k2,k3,k4,k5⟩
 cases e with
 |normal =>
  obtain ⟨s',j1,j2,j3,j4⟩:=k5
  obtain ⟨b1,b2⟩:=hT s' j1
  refine ⟨m s',j4,E2.cut n0,s',rfl,env_cutQ hG k2 (fun i x hi hx=>?_),ext_cut (h3.trans hE k3) (by rw [hS];exact hn),j1,j3,(k4.sub j2).cut k2 (belF_get b2),rfl⟩
  have hx':(T s')[i]? = some x:=by rw [← j3,List.getElem?_take_of_lt hi];exact hx
  rcases b1 i x hx' with q|q
  ·have:=(hE.entry i x (by rw [hS];exact q)).bel (by rw [hS];exact hp)
   rw [hS] at this
   exact belQ_mono hn this
  ·exact .of_belB q
 |_=>exact ⟨E2,fr2,rfl,k2,h3.trans hE k3,k4,k5⟩
end
end Go.Am
