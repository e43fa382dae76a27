/- The abstract layer: what a call has made for itself is let go, at any state: boxes speak of boxes that are there. -/
import Derived.Test.YteemcehaekffeaaGreatAmYield
set_option linter.unusedVariables false
set_option linter.unusedSimpArgs false
namespace Go.Am
open Go
noncomputable section
open Classical
theorem bel_of_cells {n:Nat} {v:AVal} (h:∀ c∈v.cells,bel n c=true):bel n v=true:=by
 cases v
 case agg cs=>exact bels_iff.2 h
 all_goals exact h _ (List.mem_singleton.2 rfl)
section
variable {G:Nat→Option AVal} {E:Env}
theorem R.bel {v:AVal} {x:Value} (k:R E v x) (h0:0<E.S.length):Go.Am.bel E.S.length v=true:=by
 have lt:∀ {i:Nat} {y:ABox},E.S[i]? = some y→Nat.blt i E.S.length=true:=fun h=>blt_iff.2 (List.getElem?_eq_some_iff.1 h).1
 have tg:∀ {sz:Nat} {t:Tag} {a:Option Addr} {n c:Nat},E.tagOk sz t a n c→belT E.S.length t=true:=by
  intro sz t a n c h
  cases t with
  |any=>rfl
  |full=>rfl
  |lit=>exact blt_iff.2 h0
  |grow g=>obtain ⟨m,ty,h1,_⟩:=h;exact lt h1
  |own g=>obtain ⟨m,ty,h1,_⟩:=h;exact lt h1
 induction k with
 |ptr i off b hm hb=>obtain ⟨x,hx,_⟩:=hb;exact lt hx
 |cptr cs ad f hf hr ih =>
  refine bels_iff.2 fun v hv=>?_
  obtain ⟨j,hj,rfl⟩:=List.getElem_of_mem hv
  exact ih j hj
 |slnil sz t ht=>simp only [Go.Am.bel,Go.Am.bels,Bool.and_true];exact tg ht
 |sl sz xs t ad n c f hn hc hm hf hsz hr ht ih =>
  simp only [Go.Am.bel,Bool.and_eq_true]
  refine ⟨tg ht,bels_iff.2 fun v hv=>?_⟩
  obtain ⟨j,hj,rfl⟩:=List.getElem_of_mem hv
  refine bel_of_cells fun c hc=>?_
  obtain ⟨q,hq,rfl⟩:=List.getElem_of_mem hc
  exact ih j hj q hq
 |view i off n cap b hnc hm hb=>obtain ⟨x,hx,_⟩:=hb;exact lt hx
 |vrow i off n b c hnc hcm hm hb=>obtain ⟨x,hx,_⟩:=hb;exact lt hx
 |ms i sz n b c hnc hcm hm hb=>obtain ⟨x,hx,_⟩:=hb;exact lt hx
 |yld i b hm hb=>obtain ⟨x,hx,_⟩:=hb;exact lt hx
 |room g sz t n b c hn hm hr=>obtain ⟨m,hs,_⟩:=hr;exact lt hs
 |map i b hm hb=>obtain ⟨x,hx,_⟩:=hb;exact lt hx
 |fn f xs ys as bs h1 h2 hx hy ihx ihy =>
  simp only [Go.Am.bel,Bool.and_eq_true]
  refine ⟨bels_iff.2 fun v hv=>?_,bels_iff.2 fun v hv=>?_⟩
  ·obtain ⟨j,hj,rfl⟩:=List.getElem_of_mem hv
   exact ihx j hj
  ·obtain ⟨j,hj,rfl⟩:=List.getElem_of_mem hv
   exact ihy j hj
 |ifc t v x hx ih=>exact ih
 |agg cs as h1 hx ih =>
  refine bels_iff.2 fun v hv=>?_
  obtain ⟨j,hj,rfl⟩:=List.getElem_of_mem hv
  exact ih j hj
 |tup cs as h1 hx ih =>
  refine bels_iff.2 fun v hv=>?_
  obtain ⟨j,hj,rfl⟩:=List.getElem_of_mem hv
  exact ih j hj
 |_=>rfl
def belQ (n:Nat):ABox→Prop
 |.loop fr _ _ _ _ _ _ _=>∀ t,bel n (Fr.get fr t)=true
 |x=>belB n x=true
theorem belQ.of_belB {n:Nat} {x:ABox} (h:belB n x=true):belQ n x:=by
 cases x<;>first|exact h|exact fun t=>belF_get h t
theorem belM_iff {n:Nat}:∀ {es:List (AVal × AVal × Nat)},(∀ e∈es,bel n e.1=true∧bel n e.2.1=true)→belM n es=true
 |[],_=>rfl
 |(k,v,q)::r,h=>by
  simp only [belM,Bool.and_eq_true]
  exact ⟨h (k,v,q) (List.mem_cons_self ..),belM_iff fun e he=>h e (List.mem_cons_of_mem _ he)⟩
theorem belP_iff {n:Nat}:∀ {es:List (AVal × AVal)},(∀ e∈es,bel n e.1=true∧bel n e.2=true)→belP n es=true
 |[],_=>rfl
 |(k,v)::r,h=>by
  simp only [belP,Bool.and_eq_true]
  exact ⟨h (k,v) (List.mem_cons_self ..),belP_iff fun e he=>h e (List.mem_cons_of_mem _ he)⟩
theorem entryOk.bel {i:Nat} {x:ABox} (k:entryOk E i x) (h0:0<E.S.length):belQ E.S.length x:=by
 have hmp:∀ es es' c,MX es es' c→mpOk E i es' c→belP E.S.length es=true:=by
  intro es es' c hx ⟨b,ms,h1,h2,h3,h4⟩
  refine belP_iff fun e he=>?_
  obtain ⟨e',he',rfl⟩:=List.mem_map.1 (hx.perm.mem_iff.2 he)
  obtain ⟨j,hj,rfl⟩:=List.getElem_of_mem he'
  exact ⟨(h4 j hj).1.bel h0,(h4 j hj).2.1.bel h0⟩
 cases x with
 |cells cs t =>
  obtain ⟨b,arr,h1,h2,h3,h4⟩:=k
  refine bels_iff.2 fun v hv=>?_
  obtain ⟨j,hj,rfl⟩:=List.getElem_of_mem hv
  exact (h4 j hj).1.bel h0
 |row cs t =>
  obtain ⟨b,arr,h1,h2,h3,h4⟩:=k
  refine bels_iff.2 fun v hv=>?_
  obtain ⟨j,hj,rfl⟩:=List.getElem_of_mem hv
  exact (h4 j hj).1.bel h0
 |grow n sz t=>rfl
 |dead=>rfl
 |hole=>rfl
 |siter s p=>rfl
 |frz o =>
  cases o with
  |none=>rfl
  |some es=>obtain ⟨c,es',hx,q⟩:=k;exact hmp es es' c hx q
 |mpx es c=>obtain ⟨es',hx,q⟩:=k;exact hmp es es' c hx q
 |mp es c =>
  obtain ⟨b,ms,h1,h2,h3,h4⟩:=k
  refine belM_iff fun e he=>?_
  obtain ⟨j,hj,rfl⟩:=List.getElem_of_mem he
  exact ⟨(h4 j hj).1.bel h0,(h4 j hj).2.1.bel h0⟩
 |iter m since seen last =>
  obtain ⟨b,h1,h2⟩:=k
  cases m with
  |none=>rfl
  |some q=>obtain ⟨c,k1,⟨y,k2,_⟩,k3⟩:=h2;exact blt_iff.2 (List.getElem?_eq_some_iff.1 k2).1
 |loop fr N ps asg body st pend tag =>
  obtain ⟨b,r,h1,h2,h3,h4,h5,h6,h7,h8,h9⟩:=k
  exact fun t=>(h9 t).bel h0
theorem env_cutQ {n:Nat} (hG:∀ g v,G g=some v→Closed v) (hE:Wf G E) (hb:∀ (i:Nat) (x:ABox),i<n→E.S[i]? = some x→belQ n x):Wf G (E.cut n):=by
 refine ⟨?_,fun i j b h1 h2 d=>?_,fun i b h=>?_,hE.base,fun b o h1 h2=>cut_free (hE.im b o h1 h2),fun i x h=>?_,fun g v h=>?_⟩
 ·show (E.mu.take n).length=(E.S.take n).length
  simp [hE.len]
 ·have h1:(E.mu.take n)[i]? = some (some b):=h1
  have h2:(E.mu.take n)[j]? = some (some b):=h2
  rw [List.getElem?_take] at h1 h2
  split at h1
  ·next l1 =>
   split at h2
   ·next l2=>exact hE.inj i j b h1 h2 fun e=>d (by rw [cut_S l1,cut_S l2];exact e)
   ·cases h2
  ·cases h1
 ·have h:(E.mu.take n)[i]? = some (some b):=h
  rw [List.getElem?_take] at h
  split at h
  ·exact hE.lt i b h
  ·cases h
 ·have h:(E.S.take n)[i]? = some x:=h
  rw [List.getElem?_take] at h
  split at h
  ·next hi =>
   have hq:=hb i x hi h
   have he:=hE.entry i x h
   cases x with
   |loop fr N ps asg body st pend tag =>
    obtain ⟨b,r,h1,h2,h3,h4,h5,h6,h7,h8,h9⟩:=he
    exact ⟨b,r,(cut_mu hi).trans h1,h2,h3,h4,h5,h6,h7,h8,fun t=>(h9 t).cut hE (hq t)⟩
   |_=>exact he.cut hE hi hq
  ·cases h
 ·have hs:Sees E (E.cut n):=⟨fun b o hi=>⟨cut_Im hE hi,rfl⟩⟩
  exact ⟨(hG g v h).move hs (hE.glob g v h).r,cut_free (hE.glob g v h).free,(hE.glob g v h).obj⟩
end
theorem ACall.keep {C:Cx} (hG:GClosed C) {f:FuncId} {args:List AVal} {S B J:St} {r:AVal} (h:ACall C f args S r (B++J)) (h0:0<S.length) (hl:B.length=S.length) (hr:bel S.length r=true)
  (hB:∀ (i:Nat) (x:ABox),B[i]? = some x→S[i]? = some x∨belB S.length x=true):ACall C f args S r B:=by
 refine ⟨h.callable,fun E vs hE hES hvs hrel=>(h.ok E vs hE hES hvs hrel).mono ?_⟩
 rintro _ _ ⟨E',v,h1,h2,h3,h4,h5,h6⟩
 have hn:E.S.length=S.length:=by rw [hES]
 refine ⟨E'.cut S.length,v,h1,h2,env_cutQ hG h3 fun i x hi hx=>?_,ext_cut h4 (by rw [hES];exact Nat.le_refl _),?_,h6.cut h3 hr⟩
 ·rw [h5,List.getElem?_append_left (by omega)] at hx
  rcases hB i x hx with k|k
  ·have:=(hE.entry i x (by rw [hES];exact k)).bel (by rw [hES];exact h0)
   rw [hn] at this
   exact this
  ·exact .of_belB k
 ·show E'.S.take S.length=_
  rw [h5,← hl,List.take_left']
  rfl
end
end Go.Am
