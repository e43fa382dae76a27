/- The abstract layer, third part: one lemma an operation. -/
import Derived.Test.YteemcehaekffeaaGreatAmCore
import Derived.Deep.AppendSrc
import Derived.Deep.Upon
set_option linter.unusedVariables false
set_option linter.unusedSimpArgs false
section
namespace Go.Am
open Go
section
variable {P:Program} {G:Nat→Option AVal} {E:Env}
theorem TI.ok.one {t:TypeId} {i:TI} (h:i.ok P t):i.isAgg=true∨i.size=1:=by
 obtain ⟨_,_,_,_,_,_,_,_,_,_,_,h⟩:=h
 simpa using h
theorem load_core {t:TypeId} {i:TI} (hi:i.ok P t) (ad:Addr) (cs:List AVal) (f:Nat→Value) (hlen:i.size≤cs.length)
  (hc:∀ j,j<cs.length→E.w.cell? (ad.add j)=some (f j)) (hr:∀ j (h:j<cs.length),R E cs[j] (f j)) :
  ∃ x,(Instr.loadAt t (.pointer (some ad))).run P E.w = .ok x E.w∧R E (ofCells i (cs.take i.size)) x:=by
 have h1:=hi.one
 obtain ⟨hu,inf,z,hinf,hs,_,_,_,_,_,_,_⟩:=hi
 simp only [Instr.loadAt,Instr.sureAddr,Sem.run_bind,Sem.run_pure,Result.andThen_ok,loadVar,run_isAgg hu]
 by_cases ha:i.isAgg=true
 ·have ha':isAggD i.d=true:=ha
  have hl:=run_loadCells (P:=P) E.w ad i.size f (fun j hj=>hc j (by omega))
  simp only [ha',if_true,run_sizeOf hinf,hs,hl,Sem.run_bind,Sem.run_pure,Result.andThen_ok]
  refine ⟨_,rfl,?_⟩
  unfold ofCells
  rw [if_pos ha]
  refine .agg _ _ (by simp;omega) fun j hj=>?_
  simp only [List.length_take] at hj
  have hj':j<cs.length:=by omega
  have hj2:j<i.size:=by omega
  simpa [Array.getD,hj2] using hr j hj'
 ·have hsz:i.size=1:=h1.resolve_left ha
  have ha':isAggD i.d=false:=by simpa [TI.isAgg] using ha
  have h0:=hc 0 (by omega)
  have e0:ad.add 0=ad:=rfl
  rw [e0] at h0
  simp only [ha',Bool.false_eq_true,if_false,run_load,h0]
  refine ⟨_,rfl,?_⟩
  unfold ofCells
  rw [if_neg ha,hsz]
  match cs,hr,hlen with
  |c::cs,hr,_=>exact hr 0 (by simp)
  |[],_,hlen=>simp [hsz] at hlen
theorem load_cptr {t:TypeId} {i:TI} (hE:Wf G E) (hi:i.ok P t) {cs:List AVal} {x:Value} (hx:R E (.cptr cs) x) (hlen:i.size≤cs.length) :
  ROk G E E.S (ofCells i (cs.take i.size)) ((Instr.loadAt t x).run P E.w):=by
 cases hx with
 |cptr _ ad f hf hr =>
  obtain ⟨y,h1,h2⟩:=load_core hi ad cs f hlen (fun j hj=>(hf j hj).2.1) hr
  exact .pure hE h1 h2
theorem load_ptr {t:TypeId} {i:TI} (hE:Wf G E) (hi:i.ok P t) {b off:Nat} {bs:List AVal} {tb:TypeId} {x:Value} (hx:R E (.ptr b off) x)
  (hS:E.S[b]? = some (.cells bs tb)) (hlen:off+i.size≤bs.length) :
  ROk G E E.S (ofCells i ((bs.drop off).take i.size)) ((Instr.loadAt t x).run P E.w):=by
 cases hx with
 |ptr _ _ c hm hb =>
  obtain ⟨c',arr,h1,h2,h3,h4⟩:=hE.entry b _ hS
  have:c'=c:=by rw [hm] at h1;injection h1 with h1;injection h1 with h1;exact h1.symm
  subst this
  obtain ⟨y,e1,e2⟩:=load_core (E:=E) hi ⟨c',off,none⟩ (bs.drop off) (fun j=>arr.getD (off+j) undef) (by rw [List.length_drop];omega)
   (fun j hj=>by
    rw [List.length_drop] at hj
    rw [add_form _ _ rfl]
    have:off+j<arr.size:=by omega
    simp [World.cell?,h2,Array.getD,this])
   (fun j hj=>by
    rw [List.length_drop] at hj
    have:=(h4 (off+j) (by omega)).1
    simpa using this)
  exact .pure hE e1 e2
theorem load_row {t:TypeId} {i:TI} (hE:Wf G E) (hi:i.ok P t) {b off:Nat} {bs:List AVal} {tb:TypeId} {x:Value} (hx:R E (.ptr b off) x)
  (hS:E.S[b]? = some (.row bs tb)) (hlen:off+i.size≤bs.length) :
  ROk G E E.S (ofCells i ((bs.drop off).take i.size)) ((Instr.loadAt t x).run P E.w):=by
 cases hx with
 |ptr _ _ c hm hb =>
  obtain ⟨c',arr,h1,h2,h3,h4⟩:=hE.entry b _ hS
  have:c'=c:=by rw [hm] at h1;injection h1 with h1;injection h1 with h1;exact h1.symm
  subst this
  obtain ⟨y,e1,e2⟩:=load_core (E:=E) hi ⟨c',off,none⟩ (bs.drop off) (fun j=>arr.getD (off+j) undef) (by rw [List.length_drop];omega)
   (fun j hj=>by
    rw [List.length_drop] at hj
    rw [add_form _ _ rfl]
    have:off+j<arr.size:=by omega
    simp [World.cell?,h2,Array.getD,this])
   (fun j hj=>by
    rw [List.length_drop] at hj
    have:=(h4 (off+j) (by omega)).1
    simpa using this)
  exact .pure hE e1 e2
def putCells (bs:List AVal) (off:Nat):List AVal→List AVal
 |[]=>bs
 |c::cs=>putCells (bs.set off c) (off+1) cs
theorem putCells_length (cs:List AVal):∀ (bs:List AVal) (off:Nat),(putCells bs off cs).length=bs.length:=by
 induction cs with
 |nil=>intros;rfl
 |cons c cs ih=>intro bs off;simp [putCells,ih]
def putArr (arr:Array Value) (off:Nat):List Value→Array Value
 |[]=>arr
 |c::cs=>putArr (arr.setIfInBounds off c) (off+1) cs
theorem putArr_size (cs:List Value):∀ (arr:Array Value) (off:Nat),(putArr arr off cs).size=arr.size:=by
 induction cs with
 |nil=>intros;rfl
 |cons c cs ih=>intro bs off;simp [putArr,ih]
theorem put_rel {Q:AVal→Value→Prop} (cs:List AVal):∀ (vs:List Value) (bs:List AVal) (arr:Array Value) (off:Nat),vs.length=cs.length→bs.length≤arr.size →
  (∀ j (h:j<cs.length),Q cs[j] (vs.getD j undef))→(∀ j (h:j<bs.length),Q bs[j] (arr.getD j undef)) →
  ∀ j (h:j<(putCells bs off cs).length),Q (putCells bs off cs)[j] ((putArr arr off vs).getD j undef):=by
 induction cs with
 |nil =>
  intro vs bs arr off hl hs hc hb
  have:vs=[]:=List.eq_nil_of_length_eq_zero (by simpa using hl)
  subst this
  exact hb
 |cons c cs ih =>
  intro vs bs arr off hl hs hc hb
  match vs,hl,hc with
  |v::vs,hl,hc =>
   refine ih vs (bs.set off c) (arr.setIfInBounds off v) (off+1) (by simpa using hl) (by simpa using hs) (fun j hj=>hc (j+1) (Nat.succ_lt_succ hj)) ?_
   intro j hj
   rw [List.length_set] at hj
   by_cases e:off=j
   ·subst e
    have hj':off<arr.size:=by omega
    have h0:Q c v:=hc 0 (Nat.succ_pos _)
    simpa [Array.getD,hj'] using h0
   ·have:=hb j hj
    have e2:(arr.setIfInBounds off v).getD j undef=arr.getD j undef:=by
     simp only [Array.getD_eq_getD_getElem?]
     rw [Array.getElem?_setIfInBounds_ne e]
    rw [e2,List.getElem_set_ne e]
    exact this
  |[],hl,_=>simp at hl
theorem run_storeCells_put (g:Nat) (t:TypeId):∀ (vs:List Value) (o k:Nat) (cur:Array Value) (w:World),w.heap[g]? = some (.cells cur t (0,0))→o+k+vs.length≤cur.size →
  (∀ v∈vs,v.oneCell'=true)→∃ w',(storeCells ⟨g,o,none⟩ vs k).run P w = .ok () w'∧w'.heap[g]? = some (.cells (putArr cur (o+k) vs) t (0,0))∧w.grownBy w' (some g)∧w'.heap.size=w.heap.size:=by
 intro vs
 induction vs with
 |nil=>intro o k cur w hg _ _;exact ⟨w,rfl,hg,⟨rfl,rfl,rfl,Nat.le_refl _,fun _ _ _=>rfl⟩,rfl⟩
 |cons v vs ih =>
  intro o k cur w hg hl h1
  have hlt:o+k<cur.size:=by simp at hl;omega
  have hgl:g<w.heap.size:=by
   rcases Nat.lt_or_ge g w.heap.size with h|h
   ·exact h
   ·rw [Array.getElem?_eq_none h] at hg;cases hg
  have hcell:w.cell? ⟨g,o+k,none⟩=some (cur[o+k]):=by simp [World.cell?,hg,hlt]
  have hfr:w.frozen? ⟨g,o+k,none⟩=false:=by simp [World.frozen?,hg]
  have hset:(w.setCell ⟨g,o+k,none⟩ v).heap[g]? = some (.cells (cur.setIfInBounds (o+k) v) t (0,0)):=by
   simp [World.setCell,Array.getElem?_modify,hg]
  obtain ⟨w',e1,e2,e3,e4⟩:=ih o (k+1) (cur.setIfInBounds (o+k) v) (w.setCell ⟨g,o+k,none⟩ v) hset (by simp at hl ⊢;omega) (fun x hx=>h1 x (List.mem_cons_of_mem _ hx))
  refine ⟨w',?_,?_,?_,?_⟩
  ·simp only [storeCells,Sem.run_bind,add_form ⟨g,o,none⟩ k rfl,run_store P w _ v .plain (h1 v (List.mem_cons_self ..)),hcell,hfr,Bool.false_eq_true,if_false,Result.andThen_ok,e1]
  ·rw [e2];rfl
  ·refine ⟨e3.os,e3.tape,e3.output,Nat.le_trans (by simp [World.setCell]) e3.size,fun j hj hne=>?_⟩
   have:=e3.block j (by simpa [World.setCell] using hj) hne
   rw [this]
   exact Go.RowKit.Below.heap_setCell w ⟨g,o+k,none⟩ v j (by simpa using hne)
  ·rw [e4];simp [World.setCell]
theorem run_storeAt {t:TypeId} {i:TI} (hi:i.ok P t) (g o:Nat) (te:TypeId) (cur:Array Value) (w:World) (hg:w.heap[g]? = some (.cells cur te (0,0))) (v:Value) (hv:v.cells.size=i.size) (hl:o+i.size≤cur.size)
  (h1:∀ c∈v.cells.toList,c.oneCell'=true) :
  ∃ w',(Instr.storeAt t (.pointer (some ⟨g,o,none⟩)) v).run P w = .ok () w'∧w'.heap[g]? = some (.cells (putArr cur o v.cells.toList) te (0,0))∧w.grownBy w' (some g):=by
 obtain ⟨hu,inf,z,hinf,hs,_,_,_,_,_,_,_⟩:=hi
 obtain ⟨w',e1,e2,e3,_⟩:=run_storeCells_put (P:=P) g te v.cells.toList o 0 cur w hg (by simp [hv];omega) h1
 refine ⟨w',?_,e2,e3⟩
 simp only [Instr.storeAt,Instr.sureAddr,Sem.run_bind,Sem.run_pure,Result.andThen_ok,storeVar,run_sizeOf hinf,hs,hv,ne_eq,not_true_eq_false,if_false,e1]
def AVal.fits (v:AVal) (n:Nat):Prop:=v.cells.length=n∧∀ c∈v.cells,c.one=true
theorem AVal.fits.known {v:AVal} {n:Nat} (h:v.fits n):∀ y,v ≠ .any∧v ≠ .raw y:=by
 intro y
 constructor
 ·rintro rfl;have:=h.2 .any (by simp [AVal.cells]);simp [AVal.one] at this
 ·rintro rfl;have:=h.2 (.raw y) (by simp [AVal.cells]);simp [AVal.one] at this
theorem fits_cells {v:AVal} {n:Nat} {x:Value} (h:v.fits n) (hx:R E v x):x.cells.size=n∧(∀ c∈x.cells.toList,c.oneCell'=true) ∧
  ∀ j (hj:j<v.cells.length),R E (v.cells[j]) (x.cells.toList.getD j undef)∧(x.cells.toList.getD j undef).oneCell'=true:=by
 obtain ⟨h1,h2⟩:=hx.cells h.known
 have key:∀ j (hj:j<v.cells.length),(x.cells.getD j undef).oneCell'=true:=fun j hj=>(h2 j hj).one (h.2 _ (List.getElem_mem hj))
 have conv:∀ j,x.cells.toList.getD j undef=x.cells.getD j undef:=fun j=>by simp [List.getD,Array.getD_eq_getD_getElem?]
 refine ⟨h1.trans h.1,fun c hc=>?_,fun j hj=>?_⟩
 ·obtain ⟨j,hj,rfl⟩:=List.getElem_of_mem hc
  have hj':j<x.cells.size:=by simpa using hj
  have:=key j (by omega)
  simpa [Array.getD,hj'] using this
 ·rw [conv];exact ⟨h2 j hj,key j hj⟩
theorem store_ptr {t:TypeId} {i:TI} (hE:Wf G E) (hi:i.ok P t) {b off:Nat} {bs:List AVal} {tb:TypeId} {x y:Value} {v:AVal} (hx:R E (.ptr b off) x) (hy:R E v y)
  (hS:E.S[b]? = some (.cells bs tb)) (hlen:off+i.size≤bs.length) (hv:v.fits i.size) :
  ∃ E',(Instr.storeAt t x y).run P E.w = .ok () E'.w∧Ext E E'∧Wf G E'∧E'.S=E.S.set b (.cells (putCells bs off v.cells) tb):=by
 cases hx with
 |ptr _ _ c hm hb =>
  obtain ⟨c',arr,h1,h2,h3,h4⟩:=hE.entry b _ hS
  have:c'=c:=by rw [hm] at h1;injection h1 with h1;injection h1 with h1;exact h1.symm
  subst this
  obtain ⟨f1,f2,f3⟩:=fits_cells hv hy
  obtain ⟨w',e1,e2,e3⟩:=run_storeAt (P:=P) hi c' off tb arr E.w h2 y f1 (by omega) f2
  obtain ⟨k1,k2⟩:=env_set hE hm e3 _ (.cells (putCells bs off v.cells) tb) hS rfl rfl (fun hext=>by
   refine ⟨c',_,hm,e2,by rw [putArr_size,putCells_length,h3],?_⟩
   exact put_rel (Q:=fun a u=>R _ a u∧u.oneCell'=true) v.cells y.cells.toList bs arr off (by simp [f1,hv.1]) (Nat.le_of_eq h3.symm) (fun j hj=>⟨(f3 j hj).1.ext hE hext,(f3 j hj).2⟩) (fun j hj=>⟨(h4 j hj).1.ext hE hext,(h4 j hj).2⟩))
  exact ⟨_,e1,k1,k2,rfl⟩
theorem store_row {t:TypeId} {i:TI} (hE:Wf G E) (hi:i.ok P t) {b off:Nat} {bs:List AVal} {tb:TypeId} {x y:Value} {v:AVal} (hx:R E (.ptr b off) x) (hy:R E v y)
  (hS:E.S[b]? = some (.row bs tb)) (hlen:off+i.size≤bs.length) (hv:v.fits i.size) :
  ∃ E',(Instr.storeAt t x y).run P E.w = .ok () E'.w∧Ext E E'∧Wf G E'∧E'.S=E.S.set b (.row (putCells bs off v.cells) tb):=by
 cases hx with
 |ptr _ _ c hm hb =>
  obtain ⟨c',arr,h1,h2,h3,h4⟩:=hE.entry b _ hS
  have:c'=c:=by rw [hm] at h1;injection h1 with h1;injection h1 with h1;exact h1.symm
  subst this
  obtain ⟨f1,f2,f3⟩:=fits_cells hv hy
  obtain ⟨w',e1,e2,e3⟩:=run_storeAt (P:=P) hi c' off tb arr E.w h2 y f1 (by omega) f2
  obtain ⟨k1,k2⟩:=env_set hE hm e3 _ (.row (putCells bs off v.cells) tb) hS rfl rfl (fun hext=>by
   refine ⟨c',_,hm,e2,by rw [putArr_size,putCells_length];exact h3,?_⟩
   exact put_rel (Q:=fun a u=>R _ a u∧u.oneCell'=true) v.cells y.cells.toList bs arr off (by simp [f1,hv.1]) h3 (fun j hj=>⟨(f3 j hj).1.ext hE hext,(f3 j hj).2⟩) (fun j hj=>⟨(h4 j hj).1.ext hE hext,(h4 j hj).2⟩)) (hrw:=.inr ⟨⟨_,_,rfl⟩,fun arr0 q m k=>by
    rw [h2] at k
    injection k with k
    injection k with k1 k2 k3
    subst k1
    exact ⟨_,_,_,e2,putArr_size _ _ _⟩⟩)
  exact ⟨_,e1,k1,k2,rfl⟩
end
end Go.Am
end
section
namespace Go.Am
open Go
section
variable {P:Program} {G:Nat→Option AVal} {E:Env}
theorem cptr_drop {cs:List AVal} {ad:Addr} {f:Nat→Value} (k:Nat) (hf:∀ j,j<cs.length→E.holds ad j (f j)) (hr:∀ j (h:j<cs.length),R E cs[j] (f j)) :
  R E (.cptr (cs.drop k)) (.pointer (some (ad.add k))):=by
 refine .cptr _ _ (fun j=>f (k+j)) (fun j hj=>?_) (fun j hj=>?_)
 ·rw [List.length_drop] at hj
  obtain ⟨h1,h2,h3,h4⟩:=hf (k+j) (by omega)
  rw [add_form ad k h1]
  refine ⟨rfl,?_,?_,h4⟩
  ·rw [add_form _ j rfl];rw [add_form ad (k+j) h1] at h2;simpa [Nat.add_assoc] using h2
  ·simpa [Nat.add_assoc] using h3
 ·rw [List.length_drop] at hj
  simpa using hr (k+j) (by omega)
theorem ptr_add {b off:Nat} {x:Value} (hx:R E (.ptr b off) x) (k:Nat):∃ ad,x = .pointer (some ad)∧R E (.ptr b (off+k)) (.pointer (some (ad.add k))):=by
 cases hx with
 |ptr _ _ c hm hb =>
  refine ⟨_,rfl,?_⟩
  rw [add_form _ k rfl]
  exact .ptr _ _ _ hm hb
theorem index_sl {t e:TypeId} {i:TI} (hE:Wf G E) (hu:P.underlying t=some (.slice e)) (hi:i.ok P e) {sz:Nat} {nl:Bool} {xs:List AVal} {tg:Tag} {x:Value}
  (hx:R E (.sl sz nl xs tg) x) (hsz:sz=i.size) {k:IntKind} {n:Int} (h0:0≤n) (hn:n.toNat<xs.length) :
  ROk G E E.S (.cptr ((xs.getD n.toNat .any).cells)) ((Instr.indexAt t x (.int k n)).run P E.w):=by
 cases hx with
 |slnil=>simp at hn
 |sl _ _ _ ad m c f hm hc hmx hf hcs hr ht =>
  obtain ⟨_,inf,z,hinf,hs,_,_,_,_,_,_,_⟩:=hi
  have hlt:n<(m:Int):=by omega
  have hrun:(Instr.indexAt t (.slice (some ad) m c) (.int k n)).run P E.w = .ok (.pointer (some (ad.add (n.toNat*sz)))) E.w:=by
   simp [Instr.indexAt,asIntOf,run_underlying hu,h0,hlt,run_sizeOf hinf,hs,hsz]
  refine .pure hE hrun ?_
  have hg:xs.getD n.toNat .any=xs[n.toNat]:=by simp [List.getD,hn]
  rw [hg]
  have hl:=hcs n.toNat hn
  have hbound:∀ j,j<sz→n.toNat*sz+j<m*sz:=fun j hj=>by
   have:(n.toNat+1)*sz≤m*sz:=Nat.mul_le_mul_right _ (by omega)
   rw [Nat.add_mul] at this;omega
  refine .cptr _ _ (fun j=>f (n.toNat*sz+j)) (fun j hj=>?_) (fun j hj=>hr n.toNat hn j hj)
  obtain ⟨h1,h2,h3,h4⟩:=hf (n.toNat*sz+j) (hbound j (by omega))
  rw [add_form ad _ h1]
  refine ⟨rfl,?_,?_,h4⟩
  ·rw [add_form _ j rfl];rw [add_form ad _ h1] at h2;simpa [Nat.add_assoc] using h2
  ·simpa [Nat.add_assoc] using h3
theorem index_view {t e:TypeId} {i:TI} (hE:Wf G E) (hu:P.underlying t=some (.slice e)) (hi:i.ok P e) {b off m cap:Nat} {x:Value}
  (hx:R E (.view b off m cap) x) {k:IntKind} {n:Int} (h0:0≤n) (hn:n.toNat<m) :
  ROk G E E.S (.ptr b (off+n.toNat*i.size)) ((Instr.indexAt t x (.int k n)).run P E.w):=by
 cases hx with
 |view _ _ _ _ c hmc hm hb =>
  obtain ⟨_,inf,z,hinf,hs,_,_,_,_,_,_,_⟩:=hi
  have hlt:n<(m:Int):=by omega
  have hrun:(Instr.indexAt t (.slice (some ⟨c,off,none⟩) m cap) (.int k n)).run P E.w = .ok (.pointer (some ⟨c,off+n.toNat*i.size,none⟩)) E.w:=by
   simp [Instr.indexAt,asIntOf,run_underlying hu,h0,hlt,run_sizeOf hinf,hs,add_form]
  exact .pure hE hrun (.ptr _ _ _ hm hb)
theorem index_vrow {t e:TypeId} {i:TI} (hE:Wf G E) (hu:P.underlying t=some (.slice e)) (hi:i.ok P e) {b off m:Nat} {x:Value}
  (hx:R E (.vrow b off m) x) {k:IntKind} {n:Int} (h0:0≤n) (hn:n.toNat<m) :
  ROk G E E.S (.ptr b (off+n.toNat*i.size)) ((Instr.indexAt t x (.int k n)).run P E.w):=by
 cases hx with
 |vrow _ _ _ c cap hmc hcm hm hb =>
  obtain ⟨_,inf,z,hinf,hs,_,_,_,_,_,_,_⟩:=hi
  have hlt:n<(m:Int):=by omega
  have hrun:(Instr.indexAt t (.slice (some ⟨c,off,none⟩) m cap) (.int k n)).run P E.w = .ok (.pointer (some ⟨c,off+n.toNat*i.size,none⟩)) E.w:=by
   simp [Instr.indexAt,asIntOf,run_underlying hu,h0,hlt,run_sizeOf hinf,hs,add_form]
  exact .pure hE hrun (.ptr _ _ _ hm hb)
theorem index_ms {t e:TypeId} {i:TI} (hE:Wf G E) (hu:P.underlying t=some (.slice e)) (hi:i.ok P e) {b sz m:Nat} {x:Value}
  (hx:R E (.ms b sz m) x) {k:IntKind} {n:Int} (h0:0≤n) (hn:n.toNat<m) :
  ROk G E E.S (.ptr b (n.toNat*i.size)) ((Instr.indexAt t x (.int k n)).run P E.w):=by
 cases hx with
 |ms _ _ _ c cap hmc hcm hm hb =>
  obtain ⟨_,inf,z,hinf,hs,_,_,_,_,_,_,_⟩:=hi
  have hlt:n<(m:Int):=by omega
  have hrun:(Instr.indexAt t (.slice (some ⟨c,0,none⟩) m cap) (.int k n)).run P E.w = .ok (.pointer (some ⟨c,n.toNat*i.size,none⟩)) E.w:=by
   simp [Instr.indexAt,asIntOf,run_underlying hu,h0,hlt,run_sizeOf hinf,hs,add_form]
  exact .pure hE hrun (.ptr _ _ _ hm hb)
theorem index_arr_ptr {t e:TypeId} {m:Nat} {i:TI} (hE:Wf G E) (hu:P.underlying t=some (.array m e)) (hi:i.ok P e) {b off:Nat} {x:Value}
  (hx:R E (.ptr b off) x) {k:IntKind} {n:Int} (h0:0≤n) (hn:n.toNat<m) :
  ROk G E E.S (.ptr b (off+n.toNat*i.size)) ((Instr.indexAt t x (.int k n)).run P E.w):=by
 cases hx with
 |ptr _ _ c hm hb =>
  obtain ⟨_,inf,z,hinf,hs,_,_,_,_,_,_,_⟩:=hi
  have hlt:n<(m:Int):=by omega
  have hrun:(Instr.indexAt t (.pointer (some ⟨c,off,none⟩)) (.int k n)).run P E.w = .ok (.pointer (some ⟨c,off+n.toNat*i.size,none⟩)) E.w:=by
   simp [Instr.indexAt,asIntOf,run_underlying hu,h0,hlt,run_sizeOf hinf,hs,add_form,Instr.sureAddr]
  exact .pure hE hrun (.ptr _ _ _ hm hb)
theorem index_arr_cptr {t e:TypeId} {m:Nat} {i:TI} (hE:Wf G E) (hu:P.underlying t=some (.array m e)) (hi:i.ok P e) {cs:List AVal} {x:Value}
  (hx:R E (.cptr cs) x) {k:IntKind} {n:Int} (h0:0≤n) (hn:n.toNat<m) :
  ROk G E E.S (.cptr (cs.drop (n.toNat*i.size))) ((Instr.indexAt t x (.int k n)).run P E.w):=by
 cases hx with
 |cptr _ ad f hf hr =>
  obtain ⟨_,inf,z,hinf,hs,_,_,_,_,_,_,_⟩:=hi
  have hlt:n<(m:Int):=by omega
  have hrun:(Instr.indexAt t (.pointer (some ad)) (.int k n)).run P E.w = .ok (.pointer (some (ad.add (n.toNat*i.size)))) E.w:=by
   simp [Instr.indexAt,asIntOf,run_underlying hu,h0,hlt,run_sizeOf hinf,hs,Instr.sureAddr]
  exact .pure hE hrun (cptr_drop _ hf hr)
def fieldOf (i:TI) (k:Nat):Option (Nat × TypeId) :=
 match i.d with
 |.struct fs=>(fs[k]?).map fun f=>(f.offset,f.type)
 |_=>none
theorem run_fieldAt {t:TypeId} {i j:TI} {k off:Nat} {tf:TypeId} (hi:i.ok P t) (hf:fieldOf i k=some (off,tf)) (hj:j.ok P tf) (hz:j.size≠0) (ad:Addr) (w:World) :
  (Instr.fieldAt t (.pointer (some ad)) k).run P w = .ok (.pointer (some (ad.add off))) w:=by
 obtain ⟨hu,_,_,_,_,_,_,_,_,_,_,_⟩:=hi
 obtain ⟨_,inf,_,hinf,hs,_,_,_,_,_,_,_⟩:=hj
 unfold fieldOf at hf
 split at hf
 ·next fs hd =>
  obtain ⟨f,hfk,hff⟩:=Option.map_eq_some_iff.1 hf
  simp only [Prod.mk.injEq] at hff
  obtain ⟨rfl,rfl⟩:=hff
  rw [hd] at hu
  simp [Instr.fieldAt,run_underlying hu,hfk,Instr.sureAddr,fieldPlace,run_sizeOf hinf,hs,hz]
 ·cases hf
theorem field_ptr {t:TypeId} {i j:TI} {k off:Nat} {tf:TypeId} (hE:Wf G E) (hi:i.ok P t) (hf:fieldOf i k=some (off,tf)) (hj:j.ok P tf) (hz:j.size≠0) {b o:Nat} {x:Value}
  (hx:R E (.ptr b o) x):ROk G E E.S (.ptr b (o+off)) ((Instr.fieldAt t x k).run P E.w):=by
 obtain ⟨ad,rfl,hr⟩:=ptr_add hx off
 exact .pure hE (run_fieldAt hi hf hj hz ad E.w) hr
theorem field_cptr {t:TypeId} {i j:TI} {k off:Nat} {tf:TypeId} (hE:Wf G E) (hi:i.ok P t) (hf:fieldOf i k=some (off,tf)) (hj:j.ok P tf) (hz:j.size≠0) {cs:List AVal} {x:Value}
  (hx:R E (.cptr cs) x):ROk G E E.S (.cptr (cs.drop off)) ((Instr.fieldAt t x k).run P E.w):=by
 cases hx with
 |cptr _ ad f hf' hr=>exact .pure hE (run_fieldAt hi hf hj hz ad E.w) (cptr_drop off hf' hr)
theorem run_part {t:TypeId} {i:TI} (hi:i.ok P t) {cs:List AVal} {as:Array Value} (h1:as.size=cs.length) (hx:∀ j (h:j<cs.length),R E cs[j] (as.getD j undef)) (off:Nat)
  (hl:off+i.size≤cs.length) (w:World):∃ x,(part t as off).run P w = .ok x w∧R E (ofCells i ((cs.drop off).take i.size)) x:=by
 have hone:=hi.one
 obtain ⟨hu,inf,z,hinf,hs,_,_,_,_,_,_,_⟩:=hi
 by_cases ha:i.isAgg=true
 ·have ha':isAggD i.d=true:=ha
  refine ⟨.agg (as.extract off (off+i.size)),by simp [part,run_isAgg hu,ha',run_sizeOf hinf,hs],?_⟩
  unfold ofCells
  rw [if_pos ha]
  refine .agg _ _ (by simp;omega) fun j hj=>?_
  simp only [List.length_take,List.length_drop] at hj
  have:=hx (off+j) (by omega)
  have hj2:off+j<as.size:=by omega
  have hj3:j<min (off+i.size) as.size-off:=by omega
  simpa [Array.getD,hj2,hj3] using this
 ·have hsz:i.size=1:=hone.resolve_left ha
  have ha':isAggD i.d=false:=by simpa [TI.isAgg] using ha
  have hlt:off<as.size:=by omega
  refine ⟨as[off],by simp [part,run_isAgg hu,ha',hlt],?_⟩
  unfold ofCells
  rw [if_neg ha,hsz]
  have:=hx off (by omega)
  have e:((cs.drop off).take 1).headD .any=cs[off]'(by omega):=by
   rw [List.drop_eq_getElem_cons (by omega)];rfl
  rw [e]
  simpa [Array.getD,hlt] using this
theorem field_agg {t:TypeId} {i j:TI} {k off:Nat} {tf:TypeId} (hE:Wf G E) (hi:i.ok P t) (hf:fieldOf i k=some (off,tf)) (hj:j.ok P tf) {cs:List AVal} {x:Value}
  (hx:R E (.agg cs) x) (hl:off+j.size≤cs.length):ROk G E E.S (ofCells j ((cs.drop off).take j.size)) ((Instr.field t x k).run P E.w):=by
 cases hx with
 |agg _ as h1 h2 =>
  obtain ⟨y,e1,e2⟩:=run_part (P:=P) hj h1 h2 off hl E.w
  obtain ⟨hu,_,_,_,_,_,_,_,_,_,_,_⟩:=hi
  refine .pure (x:=y) hE ?_ e2
  unfold fieldOf at hf
  split at hf
  ·next fs hd =>
   obtain ⟨f,hfk,hff⟩:=Option.map_eq_some_iff.1 hf
   simp only [Prod.mk.injEq] at hff
   obtain ⟨rfl,rfl⟩:=hff
   rw [hd] at hu
   simp [Instr.field,run_underlying hu,hfk,asAgg,e1]
  ·cases hf
theorem index_agg {t e:TypeId} {m:Nat} {i:TI} (hE:Wf G E) (hu:P.underlying t=some (.array m e)) (hi:i.ok P e) {cs:List AVal} {x:Value}
  (hx:R E (.agg cs) x) {k:IntKind} {n:Int} (h0:0≤n) (hn:n.toNat<m) (hl:n.toNat*i.size+i.size≤cs.length) :
  ROk G E E.S (ofCells i ((cs.drop (n.toNat*i.size)).take i.size)) ((Instr.index t x (.int k n)).run P E.w):=by
 cases hx with
 |agg _ as h1 h2 =>
  obtain ⟨y,e1,e2⟩:=run_part (P:=P) hi h1 h2 (n.toNat*i.size) hl E.w
  obtain ⟨_,inf,z,hinf,hs,_,_,_,_,_,_,_⟩:=hi
  have hlt:n<(m:Int):=by omega
  refine .pure (x:=y) hE ?_ e2
  simp [Instr.index,asIntOf,run_underlying hu,h0,hlt,run_sizeOf hinf,hs,e1]
theorem index_str {t:TypeId} (hE:Wf G E) (hu:P.underlying t=some .string) {s:List UInt8} {x:Value}
  (hx:R E (.str s) x) {k:IntKind} {n:Int} (h0:0≤n) (hn:n.toNat<s.length) :
  ROk G E E.S (.int .u8 ((s.getD n.toNat 0).toNat:Int)) ((Instr.index t x (.int k n)).run P E.w):=by
 cases hx with
 |str b _ h =>
  subst h
  have hlt:n.toNat<b.size:=by simpa using hn
  have hrun:(Instr.index t (.string b) (.int k n)).run P E.w = .ok (.int .u8 (b[n.toNat].toNat:Int)) E.w:=by
   simp [Instr.index,asIntOf,run_underlying hu,h0,hlt]
  refine .pure hE hrun ?_
  have:(b.data.toList.getD n.toNat 0)=b[n.toNat]:=by
   have h2:n.toNat<b.data.size:=hlt
   simp only [List.getD,Array.getElem?_toList,Array.getElem?_eq_getElem h2,Option.getD_some]
   rfl
  rw [this]
  exact .int _ _
end
end Go.Am
end
section
namespace Go.Am
open Go
section
variable {P:Program} {G:Nat→Option AVal} {E:Env}
theorem heap_new (w:World) (o:Obj):(w.alloc o).heap[w.heap.size]? = some o:=heap_alloc_new w o
theorem new_box (hE:Wf G E) (cs:List AVal) (arr:Array Value) (t:TypeId) (h1:arr.size=cs.length) (h2:∀ j (h:j<cs.length),R E cs[j] (arr.getD j undef)∧(arr.getD j undef).oneCell'=true) :
  ∃ E',E'.w=E.w.alloc (.cells arr t)∧Ext E E'∧Wf G E'∧E'.S=E.S++[.cells cs t]∧R E' (.ptr E.S.length 0) (.pointer (some ⟨E.w.heap.size,0,none⟩))∧E'.mu[E.S.length]? = some (some E.w.heap.size):=by
 obtain ⟨k1,k2⟩:=env_push hE (w':=E.w.alloc (.cells arr t)) (World.grownBy_alloc E.w _ none) E.w.heap.size (Nat.le_refl _) (by simp) (.cells cs t)
  (fun hext=>⟨E.w.heap.size,arr,by rw [← hE.len];simp,heap_new _ _,h1,fun j hj=>⟨(h2 j hj).1.ext hE hext,(h2 j hj).2⟩⟩)
 have hm:(E.mu++[some E.w.heap.size])[E.S.length]? = some (some E.w.heap.size):=by rw [← hE.len];simp
 exact ⟨_,rfl,k1,k2,rfl,.ptr _ _ _ hm ⟨.cells cs t,by simp,rfl⟩,hm⟩
theorem ofCells_zero {t:TypeId} {i:TI} (hi:i.ok P t):∃ inf z,P.info? t=some inf∧inf.zero=some z∧z.cells.size=i.zero.length∧i.zero.length=i.size ∧
  (∀ (E:Env) j (h:j<i.zero.length),R E i.zero[j] (z.cells.getD j undef)∧(z.cells.getD j undef).oneCell'=true)∧(∀ E:Env,R E (ofCells i i.zero) z):=by
 have hone:=hi.one
 obtain ⟨hu,inf,z,hinf,hs,hby,hz,hzz,hzl,hz1,hag,_⟩:=hi
 have hlen:z.cells.size=i.zero.length:=by rw [← hzz];simp
 have key:∀ (E:Env) j (h:j<i.zero.length),R E i.zero[j] (z.cells.getD j undef)∧(z.cells.getD j undef).oneCell'=true:=by
  intro E j hj
  have hj':j<z.cells.size:=by omega
  have e1:i.zero[j]=ofCell (z.cells[j]):=by simp [← hzz]
  have e2:z.cells.getD j undef=z.cells[j]:=by simp [Array.getD,hj']
  rw [e1,e2]
  refine ⟨.ofCell _ _,?_⟩
  rw [List.all_eq_true] at hz1
  exact hz1 _ (by simp)
 refine ⟨inf,z,hinf,hz,hlen,by rw [← hlen,← hzl];simp,key,fun E=>?_⟩
 unfold ofCells
 split
 ·next ha =>
  rw [ha] at hag
  split at hag
  ·next cs=>exact .agg _ _ hlen fun j hj=>(key E j hj).1
  ·cases hag
 ·next ha =>
  have hsz:=hone.resolve_left ha
  have hl1:i.zero.length=1:=by rw [← hlen,← hsz,← hzl];simp
  have hag':i.isAgg=false:=by simpa using ha
  rw [hag'] at hag
  split at hag
  ·cases hag
  ·next hne =>
   have hzc:z.cells = #[z]:=by
    cases z<;>first|rfl|exact absurd rfl (hne _)
   have:=(key E 0 (by omega)).1
   have e:i.zero.headD .any=i.zero[0]'(by omega):=by
    have:∀ (l:List AVal) (h:l.length=1),l.headD .any=l[0]'(by omega):=fun l h=>by
     match l,h with
     |[c],_=>rfl
    exact this _ hl1
   rw [e]
   simpa [hzc] using this
theorem alloc_ok {t:TypeId} {i:TI} (hE:Wf G E) (hi:i.ok P t):ROk G E (E.S++[.cells i.zero t]) (.ptr E.S.length 0) ((Instr.alloc t true (.tuple #[])).run P E.w):=by
 obtain ⟨inf,z,hinf,hz,hl,_,hr,_⟩:=ofCells_zero hi
 obtain ⟨E',hw,k1,k2,k3,k4,_⟩:=new_box hE i.zero z.cells t hl (hr E)
 refine ⟨E',_,?_,k1,k2,k3,k4⟩
 simp [Instr.alloc,zeroValue,typeInfo,hinf,hz,newVar,newRow,newObj,Sem.run,hw]
theorem box_ok {t:TypeId} {n:Nat} (hE:Wf G E) {v:AVal} {x:Value} (hx:R E v x) (hv:v.fits n):ROk G E (E.S++[.cells v.cells t]) (.ptr E.S.length 0) ((Instr.box t x).run P E.w):=by
 obtain ⟨f1,f2,f3⟩:=fits_cells hv hx
 obtain ⟨E',hw,k1,k2,k3,k4,_⟩:=new_box hE v.cells x.cells t (by rw [f1,hv.1]) (fun j hj=>by simpa [List.getD,Array.getD_eq_getD_getElem?] using f3 j hj)
 refine ⟨E',_,?_,k1,k2,k3,k4⟩
 simp [Instr.box,newVar,newRow,newObj,Sem.run,hw]
theorem foldl_putArr (vs:List Value):∀ (arr:Array Value) (off k:Nat),(vs.zipIdx k).foldl (fun cs (c,j)=>cs.setIfInBounds (off+j) c) arr=putArr arr (off+k) vs:=by
 induction vs with
 |nil=>intros;rfl
 |cons v vs ih=>intro arr off k;simp only [List.zipIdx_cons,List.foldl_cons,ih,putArr];rfl
theorem zipIdx_foldl (a:Array Value) (arr:Array Value) (off:Nat):a.zipIdx.foldl (fun cs (c,j)=>cs.setIfInBounds (off+j) c) arr=putArr arr off a.toList:=by
 rw [← Array.foldl_toList,Array.toList_zipIdx,foldl_putArr];simp
def fillCells (place:Nat→Option (Nat × Nat)) (bs:List AVal):List (Nat × AVal)→Option (List AVal)
 |[]=>some bs
 |(k,v)::rest =>
  match place k with
  |none=>none
  |some (off,size)=>if v.cells.length≠size∨off+size>bs.length then none else fillCells place (putCells bs off v.cells) rest
theorem fill_ok (place:Nat→Option (Nat × Nat)):∀ (ps:List (Nat × AVal)) (qs:List (Nat × Value)) (bs out:List AVal) (arr:Array Value),qs.length=ps.length →
  (∀ j (h:j<ps.length),(qs.getD j (0,undef)).1=ps[j].1∧R E ps[j].2 (qs.getD j (0,undef)).2∧∃ n,ps[j].2.fits n)→arr.size=bs.length →
  (∀ j (h:j<bs.length),R E bs[j] (arr.getD j undef)∧(arr.getD j undef).oneCell'=true)→fillCells place bs ps=some out →
  ∃ res,Instr.fill place arr qs=some res∧res.size=out.length∧∀ j (h:j<out.length),R E out[j] (res.getD j undef)∧(res.getD j undef).oneCell'=true:=by
 intro ps
 induction ps with
 |nil =>
  intro qs bs out arr hl _ hs hb ho
  have:qs=[]:=List.eq_nil_of_length_eq_zero (by simpa using hl)
  subst this
  simp only [fillCells,Option.some.injEq] at ho
  subst ho
  exact ⟨arr,rfl,hs,hb⟩
 |cons p ps ih =>
  intro qs bs out arr hl hq hs hb ho
  match qs,hl,hq with
  |q::qs,hl,hq =>
   obtain ⟨k,v⟩:=p
   obtain ⟨k',y⟩:=q
   obtain ⟨hk,hr,n,hf⟩:=hq 0 (Nat.succ_pos _)
   simp only [List.getD_cons_zero,List.getElem_cons_zero] at hk hr hf
   subst hk
   obtain ⟨f1,f2,f3⟩:=fits_cells hf hr
   simp only [fillCells] at ho
   simp only [Instr.fill]
   cases hp:place k' with
   |none=>simp [hp] at ho
   |some os =>
    obtain ⟨off,size⟩:=os
    simp only [hp] at ho
    split at ho
    ·cases ho
    ·next hn =>
     have hn1:v.cells.length=size:=Classical.byContradiction fun h=>hn (.inl h)
     have hn2:off+size≤bs.length:=Nat.le_of_not_lt fun h=>hn (.inr h)
     have hvs:y.cells.size=size:=by rw [f1,← hf.1,hn1]
     have hcond:(y.cells.size≠size||decide (off+y.cells.size>arr.size))=false:=by simp [hvs];omega
     have:(decide (y.cells.size≠size)||decide (off+y.cells.size>arr.size))=false:=by simpa using hcond
     obtain ⟨res,r1,r2,r3⟩:=ih qs (putCells bs off v.cells) out (putArr arr off y.cells.toList) (by simpa using hl) (fun j hj=>hq (j+1) (Nat.succ_lt_succ hj))
      (by rw [putArr_size,putCells_length,hs])
      (put_rel (Q:=fun a u=>R E a u∧u.oneCell'=true) v.cells y.cells.toList bs arr off (by simp [f1,hf.1]) (Nat.le_of_eq hs.symm) f3 hb) ho
     refine ⟨res,?_,r2,r3⟩
     have e:=zipIdx_foldl y.cells arr off
     simp only [this,Bool.false_eq_true,if_false]
     rw [← e] at r1
     exact r1
  |[],hl,_=>simp at hl
def placeOf (T:TypeId→Option TI) (i:TI) (k:Nat):Option (Nat × Nat) :=
 match i.d with
 |.array _ e=>(T e).map fun j=>(k*j.size,j.size)
 |.struct fs=>(fs[k]?).bind fun f=>(T f.type).map fun j=>(f.offset,j.size)
 |_=>none
theorem build_ok {T:TypeId→Option TI} (hT:TOk P T) {t:TypeId} {i:TI} (hE:Wf G E) (ht:T t=some i) (hagg:i.isAgg=true) (hel:∀ n e,i.d = .array n e→(T e).isSome=true)
  (ps:List (Nat × AVal)) (qs:Array (Nat × Value)) (hl:qs.size=ps.length)
  (hq:∀ j (h:j<ps.length),(qs.toList.getD j (0,undef)).1=ps[j].1∧R E ps[j].2 (qs.toList.getD j (0,undef)).2∧∃ n,ps[j].2.fits n) {out:List AVal}
  (ho:fillCells (placeOf T i) i.zero ps=some out):ROk G E E.S (.agg out) ((Instr.build t qs).run P E.w):=by
 have hi:=hT.ok t i ht
 obtain ⟨inf,z,hinf,hz,hzl,_,hzr,_⟩:=ofCells_zero hi
 obtain ⟨res,r1,r2,r3⟩:=fill_ok (placeOf T i) ps qs.toList i.zero out z.cells (by simpa using hl) hq hzl (hzr E) ho
 obtain ⟨hu,_,_,hinf',_,_,_,_,_,_,_,_⟩:=hi
 have hb:P.built t qs.toList=some res:=by
  unfold Program.built
  simp only [hinf,hu]
  cases hd:i.d<;>simp only [TI.isAgg,hd,isAggD] at hagg<;>try (cases hagg;done)
  case array n e =>
   obtain ⟨j,hj⟩:=Option.isSome_iff_exists.1 (hel n e hd)
   obtain ⟨_,infe,_,hinfe,hse,_,_,_,_,_,_,_⟩:=hT.ok e j hj
   simp only [hinfe,hz,hse]
   rw [← r1]
   congr 1
   funext k
   simp [placeOf,hd,hj]
  case struct fs =>
   have hall:=hT.closed t i fs ht hd
   have hp:∀ (l:List Field),(∀ f∈l,(T f.type).isSome=true)→l.mapM (fun f=>(P.info? f.type).map fun i=>(f.offset,i.size))=some (l.map fun f=>(f.offset,((T f.type).getD ⟨.invalid,0,0,[]⟩).size)):=by
    intro l
    induction l with
    |nil=>intro _;rfl
    |cons f l ih =>
     intro h
     obtain ⟨j,hj⟩:=Option.isSome_iff_exists.1 (h f (List.mem_cons_self ..))
     obtain ⟨_,inff,_,hinff,hsf,_,_,_,_,_,_,_⟩:=hT.ok _ j hj
     simp [List.mapM_cons,ih (fun g hg=>h g (List.mem_cons_of_mem _ hg)),hinff,hj,hsf]
   simp only [hp fs.toList hall,hz]
   rw [← r1]
   congr 1
   funext k
   simp only [placeOf,hd]
   rcases hk:fs[k]? with _|f
   ·simp [hk]
   ·have hmem:f∈fs.toList:=by
     obtain ⟨hlt,he⟩:=Array.getElem?_eq_some_iff.1 hk
     simp [← he]
    obtain ⟨j,hj⟩:=Option.isSome_iff_exists.1 (hall f hmem)
    simp [hk,hj]
 exact .pure hE (run_build E.w t qs res hb) (.agg _ _ r2 fun j hj=>(r3 j hj).1)
end
end Go.Am
end
section
namespace Go.Am
open Go
section
variable {P:Program} {G:Nat→Option AVal} {E:Env}
theorem putArr_getD (vs:List Value):∀ (arr:Array Value) (off p:Nat),off+vs.length≤arr.size →
  (putArr arr off vs).getD p undef=if off≤p∧p<off+vs.length then vs.getD (p-off) undef else arr.getD p undef:=by
 induction vs with
 |nil =>
  intro arr off p _
  have:¬ (off≤p∧p<off+0):=by omega
  simp only [putArr,List.length_nil,this,if_false]
 |cons v vs ih =>
  intro arr off p hl
  simp only [List.length_cons] at hl
  simp only [putArr]
  rw [ih (arr.setIfInBounds off v) (off+1) p (by simp;omega)]
  by_cases h1:off+1≤p∧p<off+1+vs.length
  ·rw [if_pos h1,if_pos ⟨by omega,by simp;omega⟩]
   have:p-off=(p-(off+1))+1:=by omega
   rw [this];rfl
  ·rw [if_neg h1]
   by_cases h2:off=p
   ·subst h2
    have h3:off<arr.size:=by omega
    rw [if_pos ⟨Nat.le_refl _,by simp⟩]
    simp [Array.getD,h3]
   ·rw [if_neg (by simp;omega)]
    simp only [Array.getD_eq_getD_getElem?]
    rw [Array.getElem?_setIfInBounds_ne h2]
theorem new_row {tg:Tag} (htg:tg = .full∨tg = .lit) (hE:Wf G E) (sz:Nat) (xs:List AVal) (arr:Array Value) (t:TypeId) (h1:arr.size=xs.length*sz) (hm:xs.length≤maxLen) (hsz:∀ k (h:k<xs.length),(xs[k]).cells.length=sz)
  (hr:∀ k (h:k<xs.length) j (hj:j<(xs[k]).cells.length),R E ((xs[k]).cells[j]) (arr.getD (k*sz+j) undef)) (ho:∀ p,p<arr.size→(arr.getD p undef).oneCell'=true) :
  ∃ E',E'.w=E.w.alloc (.cells arr t)∧Ext E E'∧Wf G E'∧E'.S=E.S∧R E' (.sl sz false xs tg) (.slice (some ⟨E.w.heap.size,0,none⟩) xs.length xs.length):=by
 obtain ⟨k1,k2⟩:=env_grown hE (World.grownBy_alloc E.w (.cells arr t) none)
 refine ⟨_,rfl,k1,k2,rfl,?_⟩
 refine .sl sz xs tg _ _ _ (fun j=>arr.getD j undef) rfl (Nat.le_refl _) hm (fun j hj=>?_) hsz (fun k h j hj=>(hr k h j hj).ext hE k1) (by
  rcases htg with rfl|rfl
  ·rfl
  ·refine ⟨rfl,fun ad e=>?_⟩
   injection e with e
   subst e
   exact ⟨rfl,hE.base,by show E.w.heap.size<(E.w.heap.push _).size;rw [Array.size_push];omega,fun i hi=>by have h2:E.w.heap.size<E.w.heap.size:=hE.lt i _ hi;omega⟩)
 have hj':j<arr.size:=by omega
 refine ⟨rfl,?_,?_,ho j hj'⟩
 ·rw [add_form _ _ rfl]
  have hh:=heap_new E.w (.cells arr t)
  simp only [World.cell?,hh]
  simp [Array.getD,hj']
 ·refine ⟨by simp,.inr (.inl ⟨hE.base,fun i hi=>?_⟩)⟩
  have h2:E.w.heap.size<E.w.heap.size:=hE.lt i _ hi
  omega
theorem box_imm {t:TypeId} {n:Nat} (hE:Wf G E) {v:AVal} {x:Value} (hx:R E v x) (hv:v.fits n):ROk G E E.S (.cptr v.cells) ((Instr.box t x).run P E.w):=by
 obtain ⟨f1,f2,f3⟩:=fits_cells hv hx
 obtain ⟨k1,k2⟩:=env_grown hE (World.grownBy_alloc E.w (.cells x.cells t) none)
 have hlen:x.cells.size=v.cells.length:=by rw [f1,hv.1]
 refine ⟨_,_,?_,k1,k2,rfl,.cptr v.cells ⟨E.w.heap.size,0,none⟩ (fun j=>x.cells.getD j undef) (fun j hj=>?_) (fun j hj=>?_)⟩
 ·simp [Instr.box,newVar,newRow,newObj,Sem.run]
 ·have hj':j<x.cells.size:=by omega
  have h3:=(f3 j hj).2
  have e:x.cells.toList.getD j undef=x.cells.getD j undef:=by simp [List.getD,Array.getD_eq_getD_getElem?]
  rw [e] at h3
  refine ⟨rfl,?_,⟨by simp,.inr (.inl ⟨hE.base,fun i hi=>?_⟩)⟩,h3⟩
  ·rw [add_form _ _ rfl]
   have hh:=heap_new E.w (.cells x.cells t)
   simp only [World.cell?,hh]
   simp [Array.getD,hj']
  ·have h2:E.w.heap.size<E.w.heap.size:=hE.lt i _ hi
   omega
 ·have h3:=(f3 j hj).1
  have e:x.cells.toList.getD j undef=x.cells.getD j undef:=by simp [List.getD,Array.getD_eq_getD_getElem?]
  rw [e] at h3
  exact h3.ext hE k1
def setElems (sz:Nat) (l:List AVal):List (Nat × AVal)→Option (List AVal)
 |[]=>some l
 |(k,v)::rest=>if v.cells.length=sz∧k<l.length then setElems sz (l.set k v) rest else none
theorem pos_eq {a b j k sz:Nat} (hj:j<sz) (hk:k<sz) (h:a*sz+j=b*sz+k):a=b:=by
 rcases Nat.lt_trichotomy a b with h1|h1|h1
 ·have:(a+1)*sz≤b*sz:=Nat.mul_le_mul_right _ h1
  rw [Nat.add_mul] at this;omega
 ·exact h1
 ·have:(b+1)*sz≤a*sz:=Nat.mul_le_mul_right _ h1
  rw [Nat.add_mul] at this;omega
theorem setElems_ok (sz:Nat):∀ (ps:List (Nat × AVal)) (qs:List (Nat × Value)) (l out:List AVal) (arr:Array Value),qs.length=ps.length →
  (∀ j (h:j<ps.length),(qs.getD j (0,undef)).1=ps[j].1∧R E ps[j].2 (qs.getD j (0,undef)).2∧∃ n,ps[j].2.fits n)→arr.size=l.length*sz →
  (∀ k (h:k<l.length),(l[k]).cells.length=sz)→(∀ k (h:k<l.length) j (hj:j<(l[k]).cells.length),R E ((l[k]).cells[j]) (arr.getD (k*sz+j) undef))→(∀ p,p<arr.size→(arr.getD p undef).oneCell'=true)→setElems sz l ps=some out →
  ∃ res,Instr.fill (fun i=>some (i*sz,sz)) arr qs=some res∧res.size=out.length*sz∧(∀ k (h:k<out.length),(out[k]).cells.length=sz) ∧
   (∀ k (h:k<out.length) j (hj:j<(out[k]).cells.length),R E ((out[k]).cells[j]) (res.getD (k*sz+j) undef))∧∀ p,p<res.size→(res.getD p undef).oneCell'=true:=by
 intro ps
 induction ps with
 |nil =>
  intro qs l out arr hl _ hs hc hb h1 ho
  have:qs=[]:=List.eq_nil_of_length_eq_zero (by simpa using hl)
  subst this
  simp only [setElems,Option.some.injEq] at ho
  subst ho
  exact ⟨arr,rfl,hs,hc,hb,h1⟩
 |cons p ps ih =>
  intro qs l out arr hl hq hs hc hb h1 ho
  match qs,hl,hq with
  |q::qs,hl,hq =>
   obtain ⟨k,v⟩:=p
   obtain ⟨k',y⟩:=q
   obtain ⟨hk,hr,n,hf⟩:=hq 0 (Nat.succ_pos _)
   simp only [List.getD_cons_zero,List.getElem_cons_zero] at hk hr hf
   subst hk
   obtain ⟨f1,f2,f3⟩:=fits_cells hf hr
   simp only [setElems] at ho
   split at ho
   ·next hcond =>
    obtain ⟨hv,hkl⟩:=hcond
    have hvs:y.cells.size=sz:=by rw [f1,← hf.1,hv]
    have hfit:k'*sz+sz≤arr.size:=by
     rw [hs]
     have:(k'+1)*sz≤l.length*sz:=Nat.mul_le_mul_right _ hkl
     rw [Nat.add_mul] at this;omega
    obtain ⟨res,r1,r2,r3,r4,r5⟩:=ih qs (l.set k' v) out (putArr arr (k'*sz) y.cells.toList) (by simpa using hl) (fun j hj=>hq (j+1) (Nat.succ_lt_succ hj))
     (by rw [putArr_size,hs,List.length_set]) (fun i hi=>by
      rw [List.length_set] at hi
      by_cases e:k'=i
      ·subst e;simpa using hv
      ·rw [List.getElem_set_ne e];exact hc i hi) (fun i hi j hj=>by
      rw [List.length_set] at hi
      rw [putArr_getD _ _ _ _ (by simp [hvs];exact hfit)]
      by_cases e:k'=i
      ·subst e
       simp only [List.getElem_set_self] at hj ⊢
       rw [if_pos ⟨by omega,by simp [hvs];omega⟩]
       have:=(f3 j hj).1
       rwa [show k'*sz+j-k'*sz=j by omega]
      ·simp only [List.getElem_set_ne e] at hj ⊢
       have hj':=hj
       rw [hc i hi] at hj'
       rw [if_neg ?_]
       ·exact hb i hi j hj
       ·rintro ⟨h1,h2⟩
        simp only [Array.length_toList,hvs] at h2
        exact e (pos_eq (j:=i*sz+j-k'*sz) (k:=j) (by omega) hj' (by omega))) (fun p hp=>by
      rw [putArr_getD _ _ _ _ (by simp [hvs];exact hfit)]
      split
      ·next hc2 =>
       have:=(f3 (p-k'*sz) (by rw [hv];simp [hvs] at hc2;omega)).2
       exact this
      ·rw [putArr_size] at hp;exact h1 p hp) ho
    refine ⟨res,?_,r2,r3,r4,r5⟩
    have hcond:(decide (y.cells.size≠sz)||decide (k'*sz+y.cells.size>arr.size))=false:=by simp [hvs];omega
    have e:=zipIdx_foldl y.cells arr (k'*sz)
    rw [← e] at r1
    simp only [Instr.fill,hcond,Bool.false_eq_true,if_false]
    exact r1
   ·cases ho
  |[],hl,_=>simp at hl
theorem zeros_ok {t:TypeId} {i:TI} (hi:i.ok P t) (n:Nat):∃ inf z,P.info? t=some inf∧inf.zero=some z∧inf.size=i.size∧inf.bytes=i.bytes∧z.cells.size=i.size ∧
  (∀ k (h:k<(List.replicate n (ofCells i i.zero)).length),((List.replicate n (ofCells i i.zero))[k]).cells.length=i.size) ∧
  (∀ (E:Env) k (h:k<(List.replicate n (ofCells i i.zero)).length) j (hj:j<((List.replicate n (ofCells i i.zero))[k]).cells.length),
   R E (((List.replicate n (ofCells i i.zero))[k]).cells[j]) (((Array.range (n*i.size)).map (z.cells[· % z.cells.size]!)).getD (k*i.size+j) undef)) ∧
  ∀ p,p<n*i.size→((((Array.range (n*i.size)).map (z.cells[· % z.cells.size]!)).getD p undef):Value).oneCell'=true:=by
 obtain ⟨inf,z,hinf,hz,hzl,hzs,hzr,hzo⟩:=ofCells_zero hi
 have hone:=hi.one
 obtain ⟨hu,inf',_,hinf',hs,hby,hz',hzz',_,hz1',hag,_⟩:=hi
 have:inf'=inf:=by rw [hinf] at hinf';injection hinf' with h;exact h.symm
 subst this
 have hcl:(ofCells i i.zero).cells=i.zero:=by
  unfold ofCells
  split
  ·rfl
  ·next ha =>
   have hsz:=hone.resolve_left ha
   rw [hsz] at hzs
   match hzero:i.zero,hzs with
   |[c],_ =>
    have:c.cells=[c]:=by
     have hmem:c∈i.zero:=by rw [hzero];exact List.mem_singleton.2 rfl
     rw [← hzz'] at hmem
     obtain ⟨v,hv,rfl⟩:=List.mem_map.1 hmem
     rw [List.all_eq_true] at hz1'
     have h1:=hz1' v hv
     unfold ofCell
     split<;>rfl
    simpa using this
 refine ⟨inf',z,hinf,hz,hs,hby,by omega,fun k h=>by simp [hcl,hzs],fun E k h j hj=>?_,fun p hp=>?_⟩
 rotate_left
 ·have hz2:0<i.size:=by
   rcases Nat.eq_zero_or_pos i.size with e|e
   ·rw [e] at hp;omega
   ·exact e
  have hj':p%z.cells.size<z.cells.size:=Nat.mod_lt _ (by omega)
  have:=(hzr ⟨default,[],[],0,fun _ _=>True,0⟩ (p%z.cells.size) (by omega)).2
  simpa [Array.getD,hp,hj'] using this
 simp only [List.getElem_replicate,hcl] at hj ⊢
 have hk:k<n:=by simpa using h
 have hlt:k*i.size+j<n*i.size:=by
  have:(k+1)*i.size≤n*i.size:=Nat.mul_le_mul_right _ hk
  rw [Nat.add_mul] at this;omega
 have hmod:(k*i.size+j)%z.cells.size=j:=by
  rw [show z.cells.size=i.size by omega,Nat.add_comm,Nat.add_mul_mod_self_right,Nat.mod_eq_of_lt (by omega)]
 have hj':j<z.cells.size:=by omega
 have:=(hzr E j hj).1
 simpa [Array.getD,hlt,hmod,hj'] using this
theorem buildSlice_ok {tg:Tag} (htg:tg = .full∨tg = .lit) {t e:TypeId} {i:TI} (hE:Wf G E) (hu:P.underlying t=some (.slice e)) (hi:i.ok P e) (hpos:0<i.size) (n:Nat) (hbig:n*i.size≤16777216)
  (ps:List (Nat × AVal)) (qs:Array (Nat × Value)) (hl:qs.size=ps.length)
  (hq:∀ j (h:j<ps.length),(qs.toList.getD j (0,undef)).1=ps[j].1∧R E ps[j].2 (qs.toList.getD j (0,undef)).2∧∃ n,ps[j].2.fits n) {out:List AVal}
  (ho:setElems i.size (List.replicate n (ofCells i i.zero)) ps=some out):ROk G E E.S (.sl i.size false out tg) ((Instr.buildSlice t n qs).run P E.w):=by
 obtain ⟨inf,z,hinf,hz,hs,_,hzs,c1,c2,c3⟩:=zeros_ok hi n
 obtain ⟨res,r1,r2,r3,r4,r5⟩:=setElems_ok (E:=E) i.size ps qs.toList _ out ((Array.range (n*i.size)).map (z.cells[· % z.cells.size]!)) (by simpa using hl) hq (by simp) c1 (c2 E) (fun p hp=>c3 p (by simpa using hp)) ho
 have hlen:out.length=n:=by
  have key:∀ (ps:List (Nat × AVal)) (l out:List AVal),setElems i.size l ps=some out→out.length=l.length:=by
   intro ps
   induction ps with
   |nil=>intro l out h;simp only [setElems,Option.some.injEq] at h;rw [h]
   |cons p ps ih =>
    intro l out h
    obtain ⟨k,v⟩:=p
    simp only [setElems] at h
    split at h
    ·simpa using ih _ _ h
    ·cases h
  simpa using key _ _ _ ho
 have hm:out.length≤maxLen:=by
  have:n≤n*i.size:=Nat.le_mul_of_pos_right _ hpos
  simp only [maxLen];omega
 obtain ⟨E',hw,k1,k2,k3,k4⟩:=new_row htg hE i.size out res e r2 hm r3 r4 r5
 refine ⟨E',_,?_,k1,k2,k3,k4⟩
 have hnot:¬ (n*i.size>2 ^ 24):=by simp;omega
 by_cases h0:n*i.size=0
 ·have e0:(Array.range (n*i.size)).map (z.cells[· % z.cells.size]!) = #[]:=by rw [h0];simp
  rw [e0] at r1
  have e1:Array.map (fun _:Nat=>(default:Value)) (Array.range 0) = #[]:=by simp
  simp [Instr.buildSlice,run_underlying hu,run_sizeOf hinf,hs,h0,e1,r1,newRow,newObj,Sem.run,hw,hlen]
 ·simp [Instr.buildSlice,run_underlying hu,run_sizeOf hinf,hs,hnot,h0,zeroValue,typeInfo,hinf,hz,r1,newRow,newObj,Sem.run,hw,hlen]
theorem run_makeSlice_row {t e:TypeId} {i:TI} (hu:P.underlying t=some (.slice e)) (hi:i.ok P e) (n c:Nat) (hnc:n≤c) (hc:c≤9223372036854775807) (hb:i.bytes*c≤140737488355328) (w:World) :
  ∃ arr:Array Value,(Instr.makeSlice t (.int .i64 n) (.int .i64 c)).run P w = .ok (.slice (some ⟨w.heap.size,0,none⟩) n c) (w.alloc (.cells arr e))∧arr.size=c*i.size ∧
   ∀ (E:Env) k (h:k<(List.replicate c (ofCells i i.zero)).length) j (hj:j<((List.replicate c (ofCells i i.zero))[k]).cells.length),
    R E (((List.replicate c (ofCells i i.zero))[k]).cells[j]) (arr.getD (k*i.size+j) undef)∧(arr.getD (k*i.size+j) undef).oneCell'=true:=by
 obtain ⟨inf,z,hinf,hz,hs,hby,hzs,c1,c2,c3⟩:=zeros_ok hi c
 obtain ⟨inf2,z2,hinf2,hz2,hzl2,hzs2,hzr2,_⟩:=ofCells_zero hi
 have e1:inf2=inf:=by rw [hinf] at hinf2;injection hinf2 with h;exact h.symm
 subst e1
 have e2:z2=z:=by rw [hz] at hz2;injection hz2 with h;exact h.symm
 subst e2
 have wn:IntKind.i64.wrap (n:Int)=n:=IntWalk.i64_in _ (by omega)
 have wc:IntKind.i64.wrap (c:Int)=c:=IntWalk.i64_in _ (by omega)
 have hbi:(i.bytes:Int)*(c:Int)≤140737488355328:=by
  have:((i.bytes*c:Nat):Int)≤140737488355328:=by omega
  rwa [Int.natCast_mul] at this
 refine ⟨(Array.range (c*i.size)).map (z2.cells[· % z2.cells.size]!),?_,by simp,fun E k h j hj=>⟨c2 E k h j hj,?_⟩⟩
 ·have hnc':¬ ((n:Int)>c):=by omega
  have hneg:¬ (((c:Int)<0∨281474976710656<(i.bytes:Int)*(c:Int))∨(n:Int)<0):=by omega
  by_cases h0:c*i.size=0
  ·have e1:Array.map (fun _:Nat=>(default:Value)) (Array.range 0) = #[]:=by simp
   simp [Instr.makeSlice,run_underlying hu,asInt,asIntOf,typeInfo,hinf,wn,wc,hnc',askRoom,hby,run_sizeOf hinf,hs,h0,e1,newRow,newObj,Sem.run]
   rw [if_neg hneg,show (Array.range 0:Array Nat) = #[] from rfl,Array.map_empty]
  ·simp [Instr.makeSlice,run_underlying hu,asInt,asIntOf,typeInfo,hinf,wn,wc,hnc',askRoom,hby,run_sizeOf hinf,hs,h0,zeroValue,hz,newRow,newObj,Sem.run]
   exact fun h=>absurd h hneg
 ·have h':k<c:=by simpa using h
  have hj':j<i.size:=by rw [c1 k h] at hj;exact hj
  have hlt:k*i.size+j<c*i.size:=by
   have:(k+1)*i.size≤c*i.size:=Nat.mul_le_mul_right _ h'
   rw [Nat.add_mul] at this;omega
  have hmod:(k*i.size+j)%z2.cells.size=j:=by
   rw [hzs,Nat.add_comm,Nat.add_mul_mod_self_right,Nat.mod_eq_of_lt hj']
  have hj2:j<z2.cells.size:=by omega
  have:=(hzr2 E j (by omega)).2
  simpa [Array.getD,hlt,hmod,hj2] using this
end
end Go.Am
end
section
namespace Go.Am
open Go
section
variable {P:Program} {G:Nat→Option AVal} {E:Env}
abbrev Bd:=Option (IntKind × Int)
def Bd.val:Bd→Option Value:=Option.map fun (k,n)=>.int k n
def Bd.at (b:Bd) (d:Nat):Nat:=match b with|none=>d|some (_,n)=>n.toNat
def Bd.pos (b:Bd):Prop:=match b with|none=>True|some (_,n)=>0≤n
theorem run_sliceBound (k:IntKind) (n:Int) (y:Nat) (c:BoundsCode) (h0:0≤n) (h:n.toNat≤y) (w:World):(Instr.sliceBound (.int k n) y c).run P w = .ok n.toNat w:=by
 have:n≤(y:Int):=by omega
 simp [Instr.sliceBound,asIntOf,h0,this]
theorem run_sliceBounds (isSlice:Bool) (len cap:Nat) (lo hi mx:Bd) (p1:lo.pos) (p2:hi.pos) (p3:mx.pos) (h1:lo.at 0≤hi.at len) (h2:hi.at len≤mx.at cap) (h3:mx.at cap≤cap)
  (h4:mx.isSome=true→hi.isSome=true) (w:World):(Instr.sliceBounds isSlice len cap lo.val hi.val mx.val).run P w = .ok (lo.at 0,hi.at len,mx.at cap) w:=by
 match lo,hi,mx with
 |none,none,none=>simp [Instr.sliceBounds,Bd.val,Bd.at]
 |some (k,n),none,none =>
  have:=run_sliceBound (P:=P) k n len .sliceB p1 h1 w
  simp [Instr.sliceBounds,Bd.val,Bd.at,this]
 |none,some (k,n),none =>
  have:=fun c=>run_sliceBound (P:=P) k n cap c p2 h2 w
  simp [Instr.sliceBounds,Bd.val,Bd.at,this]
 |some (k,n),some (k',n'),none =>
  have a:=run_sliceBound (P:=P) k n n'.toNat .sliceB p1 h1 w
  have b:=fun c=>run_sliceBound (P:=P) k' n' cap c p2 h2 w
  simp [Instr.sliceBounds,Bd.val,Bd.at,a,b]
 |none,some (k',n'),some (k'',n'') =>
  have b:=fun c=>run_sliceBound (P:=P) k' n' n''.toNat c p2 h2 w
  have d:=fun c=>run_sliceBound (P:=P) k'' n'' cap c p3 h3 w
  simp [Instr.sliceBounds,Bd.val,Bd.at,b,d]
 |some (k,n),some (k',n'),some (k'',n'') =>
  have a:=run_sliceBound (P:=P) k n n'.toNat .slice3C p1 h1 w
  have b:=fun c=>run_sliceBound (P:=P) k' n' n''.toNat c p2 h2 w
  have d:=fun c=>run_sliceBound (P:=P) k'' n'' cap c p3 h3 w
  simp [Instr.sliceBounds,Bd.val,Bd.at,a,b,d]
 |_,none,some _=>simp at h4
def cutTag (len:Nat) (hi mx:Bd):Tag:=match mx with|none=>.any|some (_,m)=>if hi.at len=m.toNat then .full else .any
theorem slice_sl {t e:TypeId} {i:TI} (hE:Wf G E) (hu:P.underlying t=some (.slice e)) (hi:i.ok P e) {sz:Nat} {nl:Bool} {xs:List AVal} {tg:Tag} {x:Value}
  (hx:R E (.sl sz nl xs tg) x) (hsz:sz=i.size) (lo h mx:Bd) (p1:lo.pos) (p2:h.pos) (p3:mx.pos) (h1:lo.at 0≤h.at xs.length) (h2:h.at xs.length≤xs.length)
  (h3:mx=none∨(h.at xs.length≤mx.at 0∧mx.at 0≤xs.length∧h.isSome=true)) :
  ROk G E E.S (.sl sz nl ((xs.take (h.at xs.length)).drop (lo.at 0)) (cutTag xs.length h mx)) ((Instr.sliceAt t x lo.val h.val mx.val).run P E.w):=by
 obtain ⟨_,inf,z,hinf,hs,_,_,_,_,_,_,_⟩:=hi
 cases hx with
 |slnil =>
  have hz:h.at 0=0:=by simpa using h2
  have hl:lo.at 0=0:=by have:lo.at 0≤h.at 0:=h1;omega
  have hm:mx.at 0=0:=by
   rcases h3 with rfl|⟨a,b,_⟩
   ·rfl
   ·simpa using b
  have hb:=run_sliceBounds (P:=P) true 0 0 lo h mx p1 p2 p3 (by omega) (by omega) (by omega) (by
   intro hm;rcases h3 with rfl|⟨_,_,c⟩
   ·simp at hm
   ·exact c) E.w
  have hrun:(Instr.sliceAt t (.slice none 0 0) lo.val h.val mx.val).run P E.w = .ok (.slice none 0 0) E.w:=by
   simp [Instr.sliceAt,Instr.slice,run_underlying hu,hb,hz,hl,hm,run_sizeOf hinf]
  refine .pure hE hrun ?_
  simp only [List.take_nil,List.drop_nil]
  refine .slnil _ _ ?_
  unfold cutTag
  split
  ·trivial
  ·split
   ·rfl
   ·trivial
 |sl _ _ _ ad n c f hn hc hmx hf hcs hr ht =>
  subst hn
  have hmc:h.at xs.length≤mx.at c∧mx.at c≤c:=by
   rcases h3 with rfl|⟨a,b,_⟩
   ·exact ⟨Nat.le_trans h2 hc,Nat.le_refl _⟩
   ·match mx,a,b with
    |none,_,_=>exact ⟨Nat.le_trans h2 hc,Nat.le_refl _⟩
    |some _,a,b=>exact ⟨a,Nat.le_trans b hc⟩
  have hb:=run_sliceBounds (P:=P) true xs.length c lo h mx p1 p2 p3 h1 hmc.1 hmc.2 (by
   intro hm;rcases h3 with rfl|⟨_,_,c⟩
   ·simp at hm
   ·exact c) E.w
  have hlen:((xs.take (h.at xs.length)).drop (lo.at 0)).length=h.at xs.length-lo.at 0:=by simp;omega
  have hrun:(Instr.sliceAt t (.slice (some ad) xs.length c) lo.val h.val mx.val).run P E.w =
    .ok (.slice (some (if mx.at c=lo.at 0 then ad else ad.add (lo.at 0*sz))) (h.at xs.length-lo.at 0) (mx.at c-lo.at 0)) E.w:=by
   simp only [Instr.sliceAt,Instr.slice,run_underlying hu,Sem.run_bind,Result.andThen_ok,hb,run_sizeOf hinf,hs,← hsz,Sem.run_pure]
   split<;>rfl
  refine .pure hE hrun ?_
  have helem:∀ k (hk:k<((xs.take (h.at xs.length)).drop (lo.at 0)).length),((xs.take (h.at xs.length)).drop (lo.at 0))[k]=xs[lo.at 0+k]'(by omega):=fun k hk=>by simp
  refine .sl sz _ _ _ _ _ (fun j=>f (lo.at 0*sz+j)) hlen.symm (by omega) (by omega) (fun j hj=>?_) (fun k hk=>?_) (fun k hk j hj=>?_) ?_
  ·have hpos:0<h.at xs.length-lo.at 0:=by
    rcases Nat.eq_zero_or_pos (h.at xs.length-lo.at 0) with e|e
    ·rw [e] at hj;omega
    ·exact e
   rw [if_neg (by omega)]
   have hb':lo.at 0*sz+j<xs.length*sz:=by
    have a:lo.at 0*sz+(h.at xs.length-lo.at 0)*sz≤xs.length*sz:=by
     rw [← Nat.add_mul];exact Nat.mul_le_mul_right _ (by omega)
    omega
   obtain ⟨g1,g2,g3,g4⟩:=hf _ hb'
   rw [add_form ad _ g1]
   refine ⟨rfl,?_,?_,g4⟩
   ·rw [add_form _ j rfl];rw [add_form ad _ g1] at g2;simpa [Nat.add_assoc] using g2
   ·simpa [Nat.add_assoc] using g3
  ·rw [helem k hk];exact hcs _ _
  ·have hj':j<(xs[lo.at 0+k]'(by omega)).cells.length:=by rw [← helem k hk];exact hj
   have:=hr (lo.at 0+k) (by omega) j hj'
   rw [Nat.add_mul,Nat.add_assoc] at this
   simpa only [helem k hk] using this
  ·unfold cutTag
   split
   ·trivial
   ·next k m =>
    split
    ·next e=>show m.toNat-lo.at 0=h.at xs.length-lo.at 0;omega
    ·trivial
theorem slice_str {t:TypeId} (hE:Wf G E) (hu:P.underlying t=some .string) {s:List UInt8} {x:Value} (hx:R E (.str s) x) (lo h:Bd) (p1:lo.pos) (p2:h.pos) (h1:lo.at 0≤h.at s.length) (h2:h.at s.length≤s.length) :
  ROk G E E.S (.str ((s.take (h.at s.length)).drop (lo.at 0))) ((Instr.sliceAt t x lo.val h.val none).run P E.w):=by
 cases hx with
 |str b _ hb0 =>
  subst hb0
  have hsz:b.data.toList.length=b.size:=rfl
  rw [hsz] at h1 h2 ⊢
  have hb:=run_sliceBounds (P:=P) false b.size b.size lo h none p1 p2 trivial h1 h2 (Nat.le_refl _) (by simp) E.w
  simp only [Bd.val,Option.map_none] at hb
  have hrun:(Instr.sliceAt t (.string b) lo.val h.val none).run P E.w = .ok (.string (b.extract (lo.at 0) (h.at b.size))) E.w:=by
   simp only [Instr.sliceAt,Instr.slice,run_underlying hu,Sem.run_bind,Result.andThen_ok,Option.isSome_none,Bool.false_eq_true,if_false]
   simp only [Bd.val,hb,Result.andThen_ok,Sem.run_pure]
  refine .pure hE hrun (.str _ _ ?_)
  simp [List.drop_take]
theorem slice_arr {t e:TypeId} {m:Nat} {i:TI} (hE:Wf G E) (hu:P.underlying t=some (.array m e)) (hi:i.ok P e) {b off:Nat} {x:Value}
  (hx:R E (.ptr b off) x) (lo h:Bd) (p1:lo.pos) (p2:h.pos) (h1:lo.at 0≤h.at m) (h2:h.at m≤m) (h3:lo.at 0<m∨lo.at 0=0) :
  ROk G E E.S (.view b (off+lo.at 0*i.size) (h.at m-lo.at 0) (m-lo.at 0)) ((Instr.sliceAt t x lo.val h.val none).run P E.w):=by
 obtain ⟨_,inf,z,hinf,hs,_,_,_,_,_,_,_⟩:=hi
 cases hx with
 |ptr _ _ c hm hb' =>
  have hb:=run_sliceBounds (P:=P) false m m lo h none p1 p2 trivial h1 h2 (Nat.le_refl _) (by simp) E.w
  simp only [Bd.val,Option.map_none] at hb
  have hrun:(Instr.sliceAt t (.pointer (some ⟨c,off,none⟩)) lo.val h.val none).run P E.w = .ok (.slice (some ⟨c,off+lo.at 0*i.size,none⟩) (h.at m-lo.at 0) (m-lo.at 0)) E.w:=by
   simp only [Instr.sliceAt,run_underlying hu,Sem.run_bind,Result.andThen_ok,Instr.sureAddr,Sem.run_pure,run_sizeOf hinf,hs]
   simp only [Bd.val,hb,Result.andThen_ok]
   rcases h3 with h3|h3
   ·have:¬ (Bd.at none m=lo.at 0):=by show ¬ (m=lo.at 0);omega
    rw [if_neg this,add_form _ _ rfl];rfl
   ·simp only [h3,Nat.zero_mul,Nat.add_zero]
    split<;>rfl
  exact .pure hE hrun (.view _ _ _ _ _ (by omega) hm hb')
theorem len_sl {t e ty:TypeId} (hE:Wf G E) (hu:P.underlying t=some (.slice e)) {sz:Nat} {nl:Bool} {xs:List AVal} {tg:Tag} {x:Value} (hx:R E (.sl sz nl xs tg) x) :
  ROk G E E.S (.int .i64 xs.length) ((Builtin.len_ #[t] ty #[x]).run P E.w):=by
 cases hx with
 |slnil=>exact .pure hE (by simp [Builtin.len_,run_underlying hu,goInt]) (.int _ _)
 |sl _ _ _ ad n c f hn _ _ _ _ _ _=>subst hn;exact .pure hE (by simp [Builtin.len_,run_underlying hu,goInt]) (.int _ _)
theorem len_view {t e ty:TypeId} (hE:Wf G E) (hu:P.underlying t=some (.slice e)) {b off n cap:Nat} {x:Value} (hx:R E (.view b off n cap) x) :
  ROk G E E.S (.int .i64 n) ((Builtin.len_ #[t] ty #[x]).run P E.w):=by
 cases hx with
 |view=>exact .pure hE (by simp [Builtin.len_,run_underlying hu,goInt]) (.int _ _)
theorem len_vrow {t e ty:TypeId} (hE:Wf G E) (hu:P.underlying t=some (.slice e)) {b off n:Nat} {x:Value} (hx:R E (.vrow b off n) x) :
  ROk G E E.S (.int .i64 n) ((Builtin.len_ #[t] ty #[x]).run P E.w):=by
 cases hx with
 |vrow=>exact .pure hE (by simp [Builtin.len_,run_underlying hu,goInt]) (.int _ _)
theorem len_ms {t e ty:TypeId} (hE:Wf G E) (hu:P.underlying t=some (.slice e)) {b sz n:Nat} {x:Value} (hx:R E (.ms b sz n) x) :
  ROk G E E.S (.int .i64 n) ((Builtin.len_ #[t] ty #[x]).run P E.w):=by
 cases hx with
 |ms=>exact .pure hE (by simp [Builtin.len_,run_underlying hu,goInt]) (.int _ _)
theorem len_str {t ty:TypeId} (hE:Wf G E) (hu:P.underlying t=some .string) {s:List UInt8} {x:Value} (hx:R E (.str s) x) :
  ROk G E E.S (.int .i64 s.length) ((Builtin.len_ #[t] ty #[x]).run P E.w):=by
 cases hx with
 |str b _ h=>subst h;exact .pure hE (x:=.int .i64 b.size) (by simp [Builtin.len_,run_underlying hu,goInt]) (.int _ _)
theorem len_arr {t e ty:TypeId} {n:Nat} (hE:Wf G E) (hu:P.underlying t=some (.array n e)) {x:Value} :
  ROk G E E.S (.int .i64 n) ((Builtin.len_ #[t] ty #[x]).run P E.w) :=
 .pure hE (x:=.int .i64 n) (by simp [Builtin.len_,run_underlying hu,goInt]) (.int _ _)
end
end Go.Am
end
section
namespace Go.Am
open Go
def bv (b:UInt8):AVal:=.int .u8 (b.toNat:Int)
def bl (l:List UInt8):List AVal:=l.map bv
section
variable {P:Program} {G:Nat→Option AVal} {E:Env}
def srcOf (S:St):AVal→List AVal
 |.sl _ _ xs _=>xs
 |.str s=>bl s
 |.view i off n _=>match S[i]? with
   |some (.cells cs _)=>(cs.drop off).take n
   |_=>[]
 |_=>[]
def srcOk (S:St) (sz:Nat):AVal→Prop
 |.sl sz' _ xs _=>sz'=sz∨xs=[]
 |.str _=>sz=1
 |.view i off n _=>sz=1∧∃ cs t,S[i]? = some (ABox.cells cs t)∧off+n≤cs.length∧∀ c∈(cs.drop off).take n,c.one=true
 |_=>False
theorem one_cells {c:AVal} (h:c.one=true):c.cells=[c]:=by cases c<;>first|rfl|(simp [AVal.one] at h)
theorem slice_carr {P:Program} {G:Nat→Option AVal} {E:Env} {t e:TypeId} {m:Nat} {i:TI} (hE:Wf G E) (hu:P.underlying t=some (.array m e)) (hi:i.ok P e) (hsz:i.size=1) {cs:List AVal} {x:Value}
  (hx:R E (.cptr cs) x) (hone:∀ c∈cs,c.one=true) (hm:m≤cs.length) (hml:m≤maxLen) (lo h:Bd) (p1:lo.pos) (p2:h.pos) (h1:lo.at 0≤h.at m) (h2:h.at m≤m) (h3:lo.at 0<m∨lo.at 0=0) :
  ROk G E E.S (.sl 1 false ((cs.take (h.at m)).drop (lo.at 0)) .any) ((Instr.sliceAt t x lo.val h.val none).run P E.w):=by
 obtain ⟨_,inf,z,hinf,hs,_,_,_,_,_,_,_⟩:=hi
 cases hx with
 |cptr _ ad f hf hr =>
  have hb:=run_sliceBounds (P:=P) false m m lo h none p1 p2 trivial h1 h2 (Nat.le_refl _) (by simp) E.w
  simp only [Bd.val,Option.map_none] at hb
  have hlen:((cs.take (h.at m)).drop (lo.at 0)).length=h.at m-lo.at 0:=by simp;omega
  have key:∀ ad':Addr,ad'=ad.add (lo.at 0)→(ad.spot=none→True)→R E (.sl 1 false ((cs.take (h.at m)).drop (lo.at 0)) .any) (.slice (some ad') (h.at m-lo.at 0) (m-lo.at 0)):=by
   intro ad' e _
   subst e
   refine .sl 1 _ .any _ _ _ (fun j=>f (lo.at 0+j)) hlen.symm (by omega) (by omega) (fun j hj=>?_) (fun k hk=>?_) (fun k hk j hj=>?_) trivial
   ·have hj':lo.at 0+j<cs.length:=by omega
    obtain ⟨a1,a2,a3,a4⟩:=hf _ hj'
    refine ⟨by rw [add_form _ _ a1],?_,?_,a4⟩
    ·rw [add_form _ _ a1] at a2 ⊢
     rw [add_form _ _ rfl]
     simpa [Nat.add_assoc] using a2
    ·rw [add_form _ _ a1]
     simpa [Nat.add_assoc] using a3
   ·have hc:=hone _ (List.mem_of_mem_take (List.mem_of_mem_drop (List.getElem_mem hk)))
    rw [one_cells hc];rfl
   ·have hc:=hone _ (List.mem_of_mem_take (List.mem_of_mem_drop (List.getElem_mem hk)))
    have e1:=one_cells hc
    have hj0:j=0:=by rw [e1] at hj;simpa using hj
    subst hj0
    have hk':lo.at 0+k<cs.length:=by rw [hlen] at hk;omega
    have e2:(((cs.take (h.at m)).drop (lo.at 0))[k]).cells[0]=cs[lo.at 0+k]:=by
     simp only [e1,List.getElem_cons_zero]
     simp
    rw [e2]
    simpa using hr _ hk'
  have hsp:0<cs.length→ad.spot=none:=fun h=>(hf 0 h).1
  have hrun:(Instr.sliceAt t (.pointer (some ad)) lo.val h.val none).run P E.w = .ok (.slice (some (if m=lo.at 0 then ad else ad.add (lo.at 0*i.size))) (h.at m-lo.at 0) (m-lo.at 0)) E.w:=by
   simp only [Instr.sliceAt,run_underlying hu,Sem.run_bind,Result.andThen_ok,Instr.sureAddr,Sem.run_pure,run_sizeOf hinf,hs]
   simp only [Bd.val,hb,Result.andThen_ok]
   rfl
  refine .pure hE hrun (key _ ?_ (fun _=>trivial))
  rw [hsz,Nat.mul_one]
  split
  ·next e =>
   have h0:lo.at 0=0:=by omega
   rw [h0];cases ad;rfl
  ·rfl
theorem toList_getD (f:Nat→Value) (n j:Nat) (h:j<n):((List.range n).map f).getD j undef=f j:=by
 simp [List.getD,h]
theorem src_ok {sz:Nat} {tx:TypeId} (hE:Wf G E) {v:AVal} {x:Value} (hx:R E v x) (hok:srcOk E.S sz v)
  (hks:∀ s,v = .str s→P.underlying tx=some .string) (hkl:(∀ s,v ≠ .str s)→∃ e',P.underlying tx=some (.slice e')) :
  ∃ news:List Value,Src P sz tx x (srcOf E.S v).length news E.w∧(∀ k (h:k<(srcOf E.S v).length),((srcOf E.S v)[k]).cells.length=sz) ∧
   ∀ k (h:k<(srcOf E.S v).length) j (hj:j<((srcOf E.S v)[k]).cells.length),R E (((srcOf E.S v)[k]).cells[j]) (news.getD (k*sz+j) undef):=by
 cases hx<;>try (exact (id hok:False).elim)
 case str b l hl =>
  subst hl
  simp only [srcOk] at hok
  subst hok
  have hlen:(srcOf E.S (.str b.data.toList)).length=b.size:=by simp [srcOf,bl]
  refine ⟨byteCells b,by rw [hlen];exact Src.ofString E.w (hks _ rfl) b,fun k h=>?_,fun k h j hj=>?_⟩
  ·simp [srcOf,bl,bv,AVal.cells]
  ·have hkb:k<b.data.size:=by rw [hlen] at h;exact h
   have hj0:j=0:=by simp [srcOf,bl,bv,AVal.cells] at hj;omega
   subst hj0
   have e:(byteCells b).getD (k*1+0) undef = .int .u8 (b.data[k].toNat:Int):=by
    simp [byteCells,List.getD,Array.getElem?_eq_getElem hkb]
   rw [e]
   simp only [srcOf,bl,List.getElem_map,bv,AVal.cells,List.getElem_cons_zero,Array.getElem_toList]
   exact .int _ _
 case slnil sz' tg ht =>
  obtain ⟨e',he⟩:=hkl (by intro s h;cases h)
  exact ⟨[],Src.ofNil E.w he 0,fun k h=>by simp [srcOf] at h,fun k h=>by simp [srcOf] at h⟩
 case sl sz' xs tg ad n c f hn hc hm hf hcs hr ht =>
  obtain ⟨e',he⟩:=hkl (by intro s h;cases h)
  subst hn
  rcases hok with h|h
  ·subst h
   refine ⟨(List.range (xs.length*sz')).map f,Src.ofSlice E.w he ad _ c _ (by simp [srcOf]) (fun j u hu=>?_) (fun u hu=>?_),hcs,fun k h j hj=>?_⟩
   ·obtain ⟨hj,e⟩:=List.getElem?_eq_some_iff.1 hu
    simp only [List.length_map,List.length_range] at hj
    have:=(hf j hj).2.1
    simpa [← e] using this
   ·obtain ⟨j,hj,rfl⟩:=List.mem_map.1 hu
    exact (hf j (by simpa using hj)).2.2.2
   ·have hlt:k*sz'+j<xs.length*sz':=by
     have h':k<xs.length:=h
     have hj':j<sz':=by have:=hcs k h';simp only [srcOf] at hj;omega
     have:(k+1)*sz'≤xs.length*sz':=Nat.mul_le_mul_right _ h'
     rw [Nat.add_mul] at this;omega
    rw [toList_getD _ _ _ hlt]
    exact hr k h j hj
  ·subst h
   exact ⟨[],Src.ofSlice E.w he ad _ c _ (by simp [srcOf]) (fun j u hu=>by simp at hu) (fun u hu=>by cases hu),fun k h=>by simp [srcOf] at h,fun k h=>by simp [srcOf] at h⟩
 case view i off n cap b hnc hm hb =>
  obtain ⟨e',he⟩:=hkl (by intro s h;cases h)
  obtain ⟨h1,cs,t,hS,hfit,hone⟩:=hok
  subst h1
  obtain ⟨b',arr,g1,g2,g3,g4⟩:=hE.entry i _ hS
  have:b'=b:=by rw [hm] at g1;injection g1 with g1;injection g1 with g1;exact g1.symm
  subst this
  have hsrc:srcOf E.S (.view i off n cap)=(cs.drop off).take n:=by simp [srcOf,hS]
  have hlen:((cs.drop off).take n).length=n:=by simp;omega
  rw [hsrc]
  have hS':Src P 1 tx (.slice (some ⟨b',off,none⟩) n cap) n ((List.range n).map fun j=>arr.getD (off+j) undef) E.w:=by
   refine Src.ofSlice E.w he ⟨b',off,none⟩ n cap _ (by simp) (fun j u hu=>?_) (fun u hu=>?_)
   ·obtain ⟨hj,e⟩:=List.getElem?_eq_some_iff.1 hu
    simp only [List.length_map,List.length_range] at hj
    have hlt:off+j<arr.size:=by omega
    rw [add_form _ _ rfl]
    simp [World.cell?,g2,hlt,← e,Array.getD]
   ·obtain ⟨j,hj,rfl⟩:=List.mem_map.1 hu
    exact (g4 (off+j) (by simp at hj;omega)).2
  refine ⟨(List.range n).map fun j=>arr.getD (off+j) undef,by rw [hlen];exact hS',fun k h=>?_,fun k h j hj=>?_⟩
  ·rw [one_cells (hone _ (List.getElem_mem h))];rfl
  ·have hc1:=one_cells (hone _ (List.getElem_mem h))
   have hj0:j=0:=by rw [hc1] at hj;simp at hj;omega
   subst hj0
   rw [hlen] at h
   rw [Nat.mul_one,Nat.add_zero,toList_getD _ _ _ h]
   have:=(g4 (off+k) (by omega)).1
   have e0:∀ (c:AVal) (hc:c.cells=[c]) (h0:0<c.cells.length),c.cells[0]=c:=fun c hc h0=>by simpa using List.getElem_of_eq hc h0
   rw [e0 _ hc1]
   simpa using this
theorem env_ghost (hE:Wf G E) (n sz:Nat) (t:TypeId) :
  Ext E { E with mu:=E.mu++[none],S:=E.S++[.grow n sz t] }∧Wf G { E with mu:=E.mu++[none],S:=E.S++[.grow n sz t] }:=by
 have lt_of:∀ (i:Nat) (y:ABox),E.S[i]? = some y→i<E.S.length:=fun i y h=>by
  rcases Nat.lt_or_ge i E.S.length with hlt|hge
  ·exact hlt
  ·rw [List.getElem?_eq_none hge] at h;cases h
 have hmu:∀ i:Nat,i<E.S.length→(E.mu++[none])[i]? = E.mu[i]?:=fun i hi=>List.getElem?_append_left (by rw [hE.len];exact hi)
 have hS:∀ (i:Nat),i<E.S.length→(E.S++[ABox.grow n sz t])[i]? = E.S[i]?:=fun i hi=>List.getElem?_append_left hi
 have hmem:∀ (i c:Nat),(E.mu++[none])[i]? = some (some c)→i<E.S.length∧E.mu[i]? = some (some c):=by
  intro i c h
  rw [List.getElem?_append] at h
  split at h
  ·exact ⟨by rw [← hE.len];assumption,h⟩
  ·rcases hi:i-E.mu.length with _|k
   ·rw [hi] at h;simp at h
   ·rw [hi] at h;simp at h
 have hxt:Ext E { E with mu:=E.mu++[none],S:=E.S++[.grow n sz t] } :=
  ⟨rfl,rfl,rfl,Nat.le_refl _,rfl,rfl,rfl,by simp,fun c _ hf=>⟨fun i h=>hf i (hmem i c h).2,.refl _ _ _⟩,fun i y h hy=>⟨hmu i (lt_of i y h),y,(hS i (lt_of i y h)).trans h,hy⟩,
   fun i n' sz' t' h=>⟨n',(hS i (lt_of i _ h)).trans h,Nat.le_refl _,fun _=>⟨hmu i (lt_of i _ h),fun _ _=>rfl⟩,fun c hc=>⟨fun _ _=>rfl,.inl ((hmu i (lt_of i _ h)).trans hc)⟩⟩,fun i c _ h hc=>⟨(hS i (lt_of i _ h)).trans h,rfl⟩,fun i cs t h hi=>⟨⟨cs,t,(hS i hi).symm.trans h⟩,fun _ _=>.same rfl⟩⟩
 refine ⟨hxt,by simp [hE.len],fun i j b h1 h2 d=>hE.inj i j b (hmem i b h1).2 (hmem j b h2).2 fun e=>d (share_push (hmem i b h1).1 (hmem j b h2).1 e),fun i b h=>hE.lt i b (hmem i b h).2,hE.base,fun b o hb ho=>(hxt.free b (Nat.lt_of_lt_of_le hb hE.base) (hE.im b o hb ho)).1,fun i y h=>?_,fun g v h=>(hE.glob g v h).ext hE hxt⟩
 have h':(E.S++[ABox.grow n sz t])[i]? = some y:=h
 rw [List.getElem?_append] at h'
 split at h'
 ·next hl=>exact (hE.entry i y h').keep hE hxt (hmu i hl) fun _ _=>rfl
 ·rcases hi:i-E.S.length with _|k
  ·rw [hi] at h'
   simp at h'
   subst h'
   refine .inl ?_
   have:i=E.mu.length:=by rw [hE.len];omega
   subst this
   simp
  ·rw [hi] at h';simp at h'
theorem env_grow (hE:Wf G E) {g n sz b m:Nat} {t:TypeId} {arr arr':Array Value} {w':World} (hm:E.mu[g]? = some (some b)) (hS:E.S[g]? = some (.grow n sz t)) (hb:E.base≤b)
  (hg:E.w.grownBy w' (some b)) (ho:E.w.heap[b]? = some (.cells arr t (0,0))) (hw:w'.heap[b]? = some (.cells arr' t (0,0))) (hsz:(n+m)*sz≤arr'.size) (hpos:0<m)
  (hsame:∀ o,o<n*sz→arr'[o]? = arr[o]?) :
  Ext E { E with w:=w',S:=E.S.set g (.grow (n+m) sz t) }∧Wf G { E with w:=w',S:=E.S.set g (.grow (n+m) sz t) }:=by
 have hi:=hE.mu_lt hm
 have hblk:∀ c,c<E.w.heap.size→c≠b→w'.heap[c]? = E.w.heap[c]?:=fun c hc hne=>hg.block c hc (by simpa using hne)
 have hother:∀ (j c:Nat),j≠g→E.mu[j]? = some (some c)→w'.heap[c]? = E.w.heap[c]?:=fun j c hj h =>
  hblk c (hE.lt j c h) (fun e=>hj (hE.one1 hm (e▸h) hS rfl).symm)
 have hxt:Ext E { E with w:=w',S:=E.S.set g (.grow (n+m) sz t) }:=by
  refine ⟨rfl,rfl,rfl,hg.size,hg.os,hg.tape,hg.output,by simp,fun c hc hf=>⟨hf,.inl (hblk c hc (fun e=>hf g (e▸hm)))⟩,fun j z h hz=>⟨rfl,?_⟩,fun j n' sz' t' h=>?_,fun j c o h hc=>?_,fun j cs t h hj=>?_⟩
  ·have e:g≠j:=by
    rintro rfl
    rw [hS] at h;injection h with h;subst h;simp [ABox.isGrow] at hz
   exact ⟨z,by simp [List.getElem?_set_ne e,h],hz⟩
  ·by_cases e:g=j
   ·subst e
    rw [hS] at h;injection h with h;injection h with h1 h2 h3
    subst h1 h2 h3
    refine ⟨n+m,by simp [hi],by omega,fun e=>by omega,fun c hc=>?_⟩
    have:c=b:=by rw [hm] at hc;injection hc with hc;injection hc with hc;exact hc.symm
    subst this
    exact ⟨fun o h=>by simp [World.cell?,ho,hw,hsame o h],.inl hm⟩
   ·exact ⟨n',by simp [List.getElem?_set_ne e,h],Nat.le_refl _,fun _=>⟨rfl,fun c hc=>hother j c (Ne.symm e) hc⟩,fun c hc=>⟨fun o _=>cell_same (hother j c (Ne.symm e) hc) _ _,.inl hc⟩⟩
  ·have e:g≠j:=by
    rintro rfl
    rw [hS] at h;injection h with h;cases h
   exact ⟨(List.getElem?_set_ne e).trans h,hother j c (Ne.symm e) hc⟩
  ·have e:g≠j:=by
    rintro rfl
    rw [List.getElem?_set_self (List.getElem?_eq_some_iff.1 hS).1] at h;cases h
   have h':E.S[j]? = some (.row cs t):=(List.getElem?_set_ne e).symm.trans h
   exact ⟨⟨cs,t,h'⟩,fun c hc=>.same (hother j c (Ne.symm e) hc)⟩
 refine ⟨hxt,by simp [hE.len],fun j j' c h1 h2 d=>hE.inj j j' c h1 h2 fun e=>d (share_set hS nofun nofun e),fun j c h=>Nat.lt_of_lt_of_le (hE.lt j c h) hg.size,Nat.le_trans hE.base hg.size,hE.im,fun j z h=>?_,fun g v h=>(hE.glob g v h).ext hE hxt⟩
 by_cases e:g=j
 ·subst e
  have:z = .grow (n+m) sz t:=by simpa [hi] using h.symm
  subst this
  exact .inr ⟨b,arr',hm,hb,hw,hsz⟩
 ·have h':E.S[j]? = some z:=by simpa [List.getElem?_set_ne e] using h
  exact (hE.entry j z h').keep hE hxt rfl fun c hc=>hother j c (Ne.symm e) hc
theorem env_move (hE:Wf G E) {g n sz b m:Nat} {t:TypeId} {arr':Array Value} {w':World} (hgl:g<E.S.length) (hS:E.S[g]? = some (.grow n sz t)) (hg:E.w.grownBy w' none) (hb:E.w.heap.size≤b) (hb':b<w'.heap.size)
  (hw:w'.heap[b]? = some (.cells arr' t (0,0))) (hsz:(n+m)*sz≤arr'.size) (hpos:0<m) :
  Ext E { E with w:=w',mu:=E.mu.set g (some b),S:=E.S.set g (.grow (n+m) sz t) }∧Wf G { E with w:=w',mu:=E.mu.set g (some b),S:=E.S.set g (.grow (n+m) sz t) }:=by
 have hgm:g<E.mu.length:=by rw [hE.len];exact hgl
 have hblk:∀ c,c<E.w.heap.size→w'.heap[c]? = E.w.heap[c]?:=fun c hc=>hg.block c hc (by simp)
 have hmem:∀ (i c:Nat),(E.mu.set g (some b))[i]? = some (some c)→(i=g∧c=b)∨(i≠g∧E.mu[i]? = some (some c)):=by
  intro i c h
  by_cases e:g=i
  ·subst e
   rw [List.getElem?_set_self hgm] at h
   injection h with h;injection h with h
   exact .inl ⟨rfl,h.symm⟩
  ·rw [List.getElem?_set_ne e] at h
   exact .inr ⟨Ne.symm e,h⟩
 have hfree:∀ c,c<E.w.heap.size→(∀ i,i≠g→E.mu[i]? ≠ some (some c))→∀ i:Nat,(E.mu.set g (some b))[i]? ≠ some (some c):=by
  intro c hc hf i h
  rcases hmem i c h with ⟨_,e⟩|⟨e,h⟩
  ·omega
  ·exact hf i e h
 have hxt:Ext E { E with w:=w',mu:=E.mu.set g (some b),S:=E.S.set g (.grow (n+m) sz t) }:=by
  refine ⟨rfl,rfl,rfl,hg.size,hg.os,hg.tape,hg.output,by simp,fun c hc hf=>⟨hfree c hc fun i _=>hf i,.inl (hblk c hc)⟩,fun j z h hz=>?_,fun j n' sz' t' h=>?_,fun j c o h hc=>?_,fun j cs t h hj=>?_⟩
  ·have e:g≠j:=by
    rintro rfl
    rw [hS] at h;injection h with h;subst h;simp [ABox.isGrow] at hz
   exact ⟨List.getElem?_set_ne e,z,by simp [List.getElem?_set_ne e,h],hz⟩
  ·by_cases e:g=j
   ·subst e
    rw [hS] at h;injection h with h;injection h with h1 h2 h3
    subst h1 h2 h3
    refine ⟨n+m,by simp [hgl],by omega,fun e=>by omega,fun c hc=>⟨fun o _=>cell_same (hblk c (hE.lt g c hc)) _ _,.inr ?_⟩⟩
    exact hfree c (hE.lt g c hc) fun i hi h=>hi (hE.one1 hc h hS rfl).symm
   ·exact ⟨n',by simp [List.getElem?_set_ne e,h],Nat.le_refl _,fun _=>⟨List.getElem?_set_ne e,fun c hc=>hblk c (hE.lt j c hc)⟩,fun c hc=>⟨fun o _=>cell_same (hblk c (hE.lt j c hc)) _ _,.inl (by rw [List.getElem?_set_ne e];exact hc)⟩⟩
  ·have e:g≠j:=by
    rintro rfl
    rw [hS] at h;injection h with h;cases h
   exact ⟨(List.getElem?_set_ne e).trans h,hblk c (hE.lt j c hc)⟩
  ·have e:g≠j:=by
    rintro rfl
    rw [List.getElem?_set_self hgl] at h;cases h
   exact ⟨⟨cs,t,(List.getElem?_set_ne e).symm.trans h⟩,fun c hc=>.same (hblk c (hE.lt j c hc))⟩
 refine ⟨hxt,by simp [hE.len],fun i j c h1 h2 d=>?_,fun i c h=>?_,Nat.le_trans hE.base hg.size,fun c o hc ho=>(hxt.free c (Nat.lt_of_lt_of_le hc hE.base) (hE.im c o hc ho)).1,fun j z h=>?_,fun g v h=>(hE.glob g v h).ext hE hxt⟩
 ·rcases hmem i c h1 with ⟨e1,c1⟩|⟨e1,m1⟩<;>rcases hmem j c h2 with ⟨e2,c2⟩|⟨e2,m2⟩
  ·omega
  ·have:=hE.lt j c m2;omega
  ·have:=hE.lt i c m1;omega
  ·exact hE.inj i j c m1 m2 fun e=>d (share_set hS nofun nofun e)
 ·rcases hmem i c h with ⟨e1,c1⟩|⟨e1,m1⟩
  ·show c<w'.heap.size;omega
  ·exact Nat.lt_of_lt_of_le (hE.lt i c m1) hg.size
 ·by_cases e:g=j
  ·subst e
   have:z = .grow (n+m) sz t:=by simpa [hgl] using h.symm
   subst this
   exact .inr ⟨b,arr',List.getElem?_set_self hgm,Nat.le_trans hE.base hb,hw,hsz⟩
  ·have h':E.S[j]? = some z:=by simpa [List.getElem?_set_ne e] using h
   exact (hE.entry j z h').keep hE hxt (List.getElem?_set_ne e) fun c hc=>hblk c (hE.lt j c hc)
theorem env_hole (hE:Wf G E):Ext E { E with mu:=E.mu++[none],S:=E.S++[.hole] }∧Wf G { E with mu:=E.mu++[none],S:=E.S++[.hole] }:=by
 have lt_of:∀ (i:Nat) (y:ABox),E.S[i]? = some y→i<E.S.length:=fun i y h=>by
  rcases Nat.lt_or_ge i E.S.length with hlt|hge
  ·exact hlt
  ·rw [List.getElem?_eq_none hge] at h;cases h
 have hmu:∀ i:Nat,i<E.S.length→(E.mu++[none])[i]? = E.mu[i]?:=fun i hi=>List.getElem?_append_left (by rw [hE.len];exact hi)
 have hS:∀ (i:Nat),i<E.S.length→(E.S++[ABox.hole])[i]? = E.S[i]?:=fun i hi=>List.getElem?_append_left hi
 have hmem:∀ (i c:Nat),(E.mu++[none])[i]? = some (some c)→i<E.S.length∧E.mu[i]? = some (some c):=by
  intro i c h
  rw [List.getElem?_append] at h
  split at h
  ·exact ⟨by rw [← hE.len];assumption,h⟩
  ·rcases hi:i-E.mu.length with _|k
   ·rw [hi] at h;simp at h
   ·rw [hi] at h;simp at h
 have hxt:Ext E { E with mu:=E.mu++[none],S:=E.S++[.hole] } :=
  ⟨rfl,rfl,rfl,Nat.le_refl _,rfl,rfl,rfl,by simp,fun c _ hf=>⟨fun i h=>hf i (hmem i c h).2,.refl _ _ _⟩,fun i y h hy=>⟨hmu i (lt_of i y h),y,(hS i (lt_of i y h)).trans h,hy⟩,
   fun i n' sz' t' h=>⟨n',(hS i (lt_of i _ h)).trans h,Nat.le_refl _,fun _=>⟨hmu i (lt_of i _ h),fun _ _=>rfl⟩,fun c hc=>⟨fun _ _=>rfl,.inl ((hmu i (lt_of i _ h)).trans hc)⟩⟩,fun i c _ h hc=>⟨(hS i (lt_of i _ h)).trans h,rfl⟩,fun i cs t h hi=>⟨⟨cs,t,(hS i hi).symm.trans h⟩,fun _ _=>.same rfl⟩⟩
 refine ⟨hxt,by simp [hE.len],fun i j b h1 h2 d=>hE.inj i j b (hmem i b h1).2 (hmem j b h2).2 fun e=>d (share_push (hmem i b h1).1 (hmem j b h2).1 e),fun i b h=>hE.lt i b (hmem i b h).2,hE.base,fun b o hb ho=>(hxt.free b (Nat.lt_of_lt_of_le hb hE.base) (hE.im b o hb ho)).1,fun i y h=>?_,fun g v h=>(hE.glob g v h).ext hE hxt⟩
 have h':(E.S++[ABox.hole])[i]? = some y:=h
 rw [List.getElem?_append] at h'
 split at h'
 ·next hl=>exact (hE.entry i y h').keep hE hxt (hmu i hl) fun _ _=>rfl
 ·rcases hi:i-E.S.length with _|k
  ·rw [hi] at h'
   simp at h'
   subst h'
   trivial
  ·rw [hi] at h';simp at h'
theorem env_fill (hE:Wf G E) {g b:Nat} {w':World} (x:ABox) (hS:E.S[g]? = some .hole) (hg:E.w.grownBy w' none) (hb:E.w.heap.size≤b) (hb':b<w'.heap.size)
  (hx:Ext E { E with w:=w',mu:=E.mu.set g (some b),S:=E.S.set g x }→entryOk { E with w:=w',mu:=E.mu.set g (some b),S:=E.S.set g x } g x) (hxw:∀ cs t,x ≠ .row cs t:=by nofun) :
  Ext E { E with w:=w',mu:=E.mu.set g (some b),S:=E.S.set g x }∧Wf G { E with w:=w',mu:=E.mu.set g (some b),S:=E.S.set g x }:=by
 have hgl:g<E.S.length:=(List.getElem?_eq_some_iff.1 hS).1
 have hgm:g<E.mu.length:=by rw [hE.len];exact hgl
 have hblk:∀ c,c<E.w.heap.size→w'.heap[c]? = E.w.heap[c]?:=fun c hc=>hg.block c hc (by simp)
 have hmem:∀ (i c:Nat),(E.mu.set g (some b))[i]? = some (some c)→(i=g∧c=b)∨(i≠g∧E.mu[i]? = some (some c)):=by
  intro i c h
  by_cases e:g=i
  ·subst e
   rw [List.getElem?_set_self hgm] at h
   injection h with h;injection h with h
   exact .inl ⟨rfl,h.symm⟩
  ·rw [List.getElem?_set_ne e] at h
   exact .inr ⟨Ne.symm e,h⟩
 have hxt:Ext E { E with w:=w',mu:=E.mu.set g (some b),S:=E.S.set g x }:=by
  refine ⟨rfl,rfl,rfl,hg.size,hg.os,hg.tape,hg.output,by simp,fun c hc hf=>⟨fun i h=>?_,.inl (hblk c hc)⟩,fun j z h hz=>?_,fun j n' sz' t' h=>?_,fun j c o h hc=>?_,fun j cs t h hj=>?_⟩
  ·rcases hmem i c h with ⟨_,e⟩|⟨e,h⟩
   ·omega
   ·exact hf i h
  ·have e:g≠j:=by
    rintro rfl
    rw [hS] at h;injection h with h;subst h;simp [ABox.isGrow] at hz
   exact ⟨List.getElem?_set_ne e,z,by simp [List.getElem?_set_ne e,h],hz⟩
  ·have e:g≠j:=by
    rintro rfl
    rw [hS] at h;cases h
   exact ⟨n',by simp [List.getElem?_set_ne e,h],Nat.le_refl _,fun _=>⟨List.getElem?_set_ne e,fun c hc=>hblk c (hE.lt j c hc)⟩,fun c hc=>⟨fun o _=>cell_same (hblk c (hE.lt j c hc)) _ _,.inl (by rw [List.getElem?_set_ne e];exact hc)⟩⟩
  ·have e:g≠j:=by
    rintro rfl
    rw [hS] at h;injection h with h;cases h
   exact ⟨(List.getElem?_set_ne e).trans h,hblk c (hE.lt j c hc)⟩
  ·have e:g≠j:=by
    rintro rfl
    rw [List.getElem?_set_self hgl] at h
    exact absurd (Option.some.inj h) (hxw cs t)
   exact ⟨⟨cs,t,(List.getElem?_set_ne e).symm.trans h⟩,fun c hc=>.same (hblk c (hE.lt j c hc))⟩
 refine ⟨hxt,by simp [hE.len],fun i j c h1 h2 d=>?_,fun i c h=>?_,Nat.le_trans hE.base hg.size,fun c o hc ho=>(hxt.free c (Nat.lt_of_lt_of_le hc hE.base) (hE.im c o hc ho)).1,fun j z h=>?_,fun g v h=>(hE.glob g v h).ext hE hxt⟩
 ·rcases hmem i c h1 with ⟨e1,c1⟩|⟨e1,m1⟩<;>rcases hmem j c h2 with ⟨e2,c2⟩|⟨e2,m2⟩
  ·omega
  ·have:=hE.lt j c m2;omega
  ·have:=hE.lt i c m1;omega
  ·exact hE.inj i j c m1 m2 fun e=>d (share_set hS nofun nofun e)
 ·rcases hmem i c h with ⟨e1,c1⟩|⟨e1,m1⟩
  ·show c<w'.heap.size;omega
  ·exact Nat.lt_of_lt_of_le (hE.lt i c m1) hg.size
 ·by_cases e:g=j
  ·subst e
   have:z=x:=by simpa [hgl] using h.symm
   subst this
   exact hx hxt
  ·have h':E.S[j]? = some z:=by simpa [List.getElem?_set_ne e] using h
   exact (hE.entry j z h').keep hE hxt (List.getElem?_set_ne e) fun c hc=>hblk c (hE.lt j c hc)
end
end Go.Am
end
section
namespace Go.Am
open Go
section
variable {P:Program} {G:Nat→Option AVal} {E:Env}
theorem pair_getD (olds news:List Value) (zc:Array Value) (p:Nat) (h:p<olds.length+news.length) :
  ((olds++news).toArray++zc).getD p undef=if p<olds.length then olds.getD p undef else news.getD (p-olds.length) undef:=by
 simp only [Array.getD_eq_getD_getElem?]
 rw [Array.getElem?_append_left (by simpa using h)]
 simp only [List.getElem?_toArray]
 rw [List.getElem?_append]
 split<;>rfl
theorem pair_rel {sz:Nat} {xs ys:List AVal} {olds news:List Value} {Q:AVal→Value→Prop} (zc:Array Value) (hol:olds.length=xs.length*sz) (hnl:news.length=ys.length*sz)
  (cx:∀ k (h:k<xs.length),(xs[k]).cells.length=sz) (cy:∀ k (h:k<ys.length),(ys[k]).cells.length=sz)
  (rx:∀ k (h:k<xs.length) j (hj:j<(xs[k]).cells.length),Q ((xs[k]).cells[j]) (olds.getD (k*sz+j) undef))
  (ry:∀ k (h:k<ys.length) j (hj:j<(ys[k]).cells.length),Q ((ys[k]).cells[j]) (news.getD (k*sz+j) undef)) :
  (∀ k (h:k<(xs++ys).length),((xs++ys)[k]).cells.length=sz) ∧
  ∀ k (h:k<(xs++ys).length) j (hj:j<((xs++ys)[k]).cells.length),Q (((xs++ys)[k]).cells[j]) (((olds++news).toArray++zc).getD (k*sz+j) undef):=by
 have c:∀ k (h:k<(xs++ys).length),((xs++ys)[k]).cells.length=sz:=by
  intro k h
  rw [List.getElem_append]
  split
  ·exact cx _ _
  ·exact cy _ _
 refine ⟨c,fun k h j hj=>?_⟩
 have hj':j<sz:=by rw [← c k h];exact hj
 rw [List.length_append] at h
 have hlt:k*sz+j<olds.length+news.length:=by
  rw [hol,hnl,← Nat.add_mul]
  have:(k+1)*sz≤(xs.length+ys.length)*sz:=Nat.mul_le_mul_right _ h
  rw [Nat.add_mul] at this;omega
 rw [pair_getD _ _ _ _ hlt]
 by_cases hk:k<xs.length
 ·have e:(xs++ys)[k]'(by rw [List.length_append];exact h)=xs[k]:=List.getElem_append_left hk
  have h2:k*sz+j<olds.length:=by
   rw [hol]
   have:(k+1)*sz≤xs.length*sz:=Nat.mul_le_mul_right _ hk
   rw [Nat.add_mul] at this;omega
  rw [if_pos h2]
  have:=rx k hk j (by rw [← e];exact hj)
  simpa only [e] using this
 ·have e:(xs++ys)[k]'(by rw [List.length_append];exact h)=ys[k-xs.length]'(by omega):=List.getElem_append_right (by omega)
  have h1:xs.length*sz≤k*sz:=Nat.mul_le_mul_right _ (by omega)
  rw [if_neg (by rw [hol];omega)]
  have:=ry (k-xs.length) (by omega) j (by rw [← e];exact hj)
  rw [Nat.sub_mul] at this
  rw [hol,show k*sz+j-xs.length*sz=k*sz-xs.length*sz+j by omega]
  simpa only [e] using this
theorem set_same {S:St} {g:Nat} {x:ABox} (h:S[g]? = some x):S.set g x=S:=by
 obtain ⟨hl,e⟩:=List.getElem?_eq_some_iff.1 h
 subst e
 simp
theorem Env.tagOk.to_grow {sz g n c:Nat} {tg:Tag} {a:Option Addr} (htg:tg = .grow g∨tg = .own g) (h:E.tagOk sz tg a n c):E.tagOk sz (.grow g) a n c:=by
 rcases htg with rfl|rfl
 ·exact h
 ·exact h.own_grow
theorem tagOk_row {sz g n c m:Nat} {tg:Tag} {a:Option Addr} {t:TypeId} (htg:tg = .grow g∨tg = .own g) (h1:E.S[g]? = some (ABox.grow m sz t)) (h2:n≤m)
  (h3:n=m→∃ (b:Nat) (arr:Array Value),E.mu[g]? = some (some b)∧a=some ⟨b,0,none⟩∧E.w.heap[b]? = some (.cells arr t (0,0))∧arr.size=c*sz):E.tagOk sz tg a n c:=by
 rcases htg with rfl|rfl
 ·exact ⟨m,t,h1,h2,fun e=>.inr (h3 e)⟩
 ·exact ⟨m,t,h1,h2,fun e=>.inr (h3 e)⟩
theorem append_new (hE:Wf G E) {sz:Nat} {e:TypeId} {g:Nat} {tg:Tag} (htg:tg = .grow g∨tg = .own g) {xs ys:List AVal} {olds news:List Value} (zc:Array Value) (cap:Nat) (hS:E.S[g]? = some (.grow xs.length sz e))
  (hol:olds.length=xs.length*sz) (hnl:news.length=ys.length*sz) (cx:∀ k (h:k<xs.length),(xs[k]).cells.length=sz) (cy:∀ k (h:k<ys.length),(ys[k]).cells.length=sz)
  (rx:∀ k (h:k<xs.length) j (hj:j<(xs[k]).cells.length),R E ((xs[k]).cells[j]) (olds.getD (k*sz+j) undef))
  (ry:∀ k (h:k<ys.length) j (hj:j<(ys[k]).cells.length),R E ((ys[k]).cells[j]) (news.getD (k*sz+j) undef))
  (ox:∀ u∈olds,u.oneCell'=true) (oy:∀ u∈news,u.oneCell'=true) (hcap:xs.length+ys.length≤cap) (hmax:cap≤maxLen) (hzc:zc.size=(cap-(xs.length+ys.length))*sz) (hpos:0<ys.length) :
  ∃ E',E'.w=E.w.drew.alloc (.cells ((olds++news).toArray++zc) e)∧Ext E E'∧Wf G E'∧E'.S=E.S.set g (.grow (xs.length+ys.length) sz e) ∧
   R E' (.sl sz false (xs++ys) tg) (.slice (some ⟨E.w.heap.size,0,none⟩) (xs.length+ys.length) cap):=by
 have hgl:g<E.S.length:=(List.getElem?_eq_some_iff.1 hS).1
 have hg:E.w.grownBy (E.w.drew.alloc (.cells ((olds++news).toArray++zc) e)) none :=
  ⟨rfl,rfl,rfl,by simp,fun k hk _=>Go.RowKit.Below.heap_alloc E.w.drew _ k hk⟩
 have hnew:(E.w.drew.alloc (.cells ((olds++news).toArray++zc) e)).heap[E.w.heap.size]? = some (.cells ((olds++news).toArray++zc) e (0,0)):=heap_alloc_new E.w.drew _
 have hsize:((olds++news).toArray++zc).size=cap*sz:=by
  simp only [Array.size_append,List.size_toArray,List.length_append,hol,hnl,hzc,← Nat.add_mul]
  congr 1;omega
 obtain ⟨k1,k2⟩:=env_move hE (g:=g) (n:=xs.length) (sz:=sz) (b:=E.w.heap.size) (m:=ys.length) (t:=e) hgl hS hg (Nat.le_refl _) (by simp) hnew (by rw [hsize];exact Nat.mul_le_mul_right _ hcap) hpos
 refine ⟨_,rfl,k1,k2,rfl,?_⟩
 obtain ⟨c,r⟩:=pair_rel (Q:=R _) zc hol hnl cx cy (fun k h j hj=>(rx k h j hj).ext hE k1) (fun k h j hj=>(ry k h j hj).ext hE k1)
 have hgm:g<E.mu.length:=by rw [hE.len];exact hgl
 refine .sl sz _ _ _ _ _ (fun j=>((olds++news).toArray++zc).getD j undef) (by simp) hcap hmax (fun j hj=>?_) c r ?_
 ·have hlt:j<olds.length+news.length:=by rw [hol,hnl,← Nat.add_mul];exact hj
  have hlt2:j<((olds++news).toArray++zc).size:=by simp;omega
  refine ⟨rfl,?_,⟨by simp,.inr (.inr ⟨hE.base,g,xs.length+ys.length,sz,e,List.getElem?_set_self hgm,List.getElem?_set_self hgl,by simpa using hj⟩)⟩,?_⟩
  ·rw [add_form _ _ rfl]
   simp only [World.cell?]
   rw [hnew]
   have:((olds++news).toArray++zc)[j]? = some (((olds++news).toArray++zc).getD j undef):=by
    rw [Array.getElem?_eq_getElem hlt2];rw [Array.getD_eq_getD_getElem?,Array.getElem?_eq_getElem hlt2];rfl
   simpa using this
  ·show Value.oneCell' (((olds++news).toArray++zc).getD j undef)=true
   rw [pair_getD _ _ _ _ hlt]
   split
   ·next h=>exact ox _ (by simp [List.getD,h])
   ·next h=>exact oy _ (by
     have:j-olds.length<news.length:=by omega
     simp [List.getD,this])
 ·exact tagOk_row htg (List.getElem?_set_self hgl) (Nat.le_refl _) fun _=>⟨E.w.heap.size,_,List.getElem?_set_self hgm,rfl,hnew,hsize⟩
theorem append_grow {t tx ty e:TypeId} {i:TI} (hE:Wf G E) (hu:P.underlying t=some (.slice e)) (hi:i.ok P e) {g:Nat} {tg:Tag} (htg:tg = .grow g∨tg = .own g) {nl:Bool} {xs:List AVal} {x y:Value} {v:AVal}
  (hx:R E (.sl i.size nl xs tg) x) (hS:E.S[g]? = some (.grow xs.length i.size e)) (hy:R E v y) (hok:srcOk E.S i.size v)
  (hks:∀ s,v = .str s→P.underlying tx=some .string) (hkl:(∀ s,v ≠ .str s)→∃ e',P.underlying tx=some (.slice e'))
  (h63:xs.length+(srcOf E.S v).length≤maxLen) (hby:(xs.length+(srcOf E.S v).length)*i.bytes≤140737488355328) :
  ROk G E (E.S.set g (.grow (xs.length+(srcOf E.S v).length) i.size e)) (.sl i.size (nl&&(srcOf E.S v).isEmpty) (xs++srcOf E.S v) tg) ((Builtin.append_ #[t,tx] ty #[x,y]).run P E.w):=by
 obtain ⟨news,hsrc,cy,ry⟩:=src_ok hE hy hok hks hkl
 have hii:=hi
 obtain ⟨inf,z,hinf,hz,hzl,hzs,_,_⟩:=ofCells_zero hi
 obtain ⟨_,inf',_,hinf',hs,hb',_,_,_,_,_,_⟩:=hi
 have:inf'=inf:=by rw [hinf] at hinf';injection hinf' with h;exact h.symm
 subst this
 generalize hys:srcOf E.S v=ys at *
 have hnl:news.length=ys.length*i.size:=hsrc.newsLen
 have h63i:((xs.length+ys.length:Nat):Int)≤9223372036854775807:=by simp only [maxLen] at h63;omega
 have hsrc':Src P inf'.size tx y ys.length news E.w:=by rw [hs];exact hsrc
 rcases Nat.eq_zero_or_pos ys.length with h0|hpos
 ·have hy0:ys=[]:=List.eq_nil_of_length_eq_zero h0
  subst hy0
  have hn0:news=[]:=List.eq_nil_of_length_eq_zero (by simpa using hnl)
  subst hn0
  have hle:∀ a n c,x = .slice a n c→n≤c:=by
   intro a n c hxe
   cases hx with
   |slnil=>injection hxe with _ h1 h2;omega
   |sl _ _ _ _ _ _ _ _ hc=>injection hxe with _ h1 h2;omega
  have hsl:∃ a n c,x = .slice a n c:=by cases hx<;>exact ⟨_,_,_,rfl⟩
  obtain ⟨a,n,c,rfl⟩:=hsl
  have hrun:=run_append_nothing (P:=P) E.w t tx ty e inf' hu hinf a n c (hle a n c rfl) y hsrc'
  simp only [List.length_nil,Nat.add_zero,List.append_nil,List.isEmpty_nil,Bool.and_true,set_same hS]
  exact .pure hE hrun hx
 ·have hne:ys.isEmpty=false:=by cases ys with|nil=>simp at hpos|cons=>rfl
  rw [hne,Bool.and_false]
  have grows:∀ (a:Option Addr) (c:Nat) (olds:List Value),olds.length=xs.length*i.size→(∀ k (h:k<xs.length),(xs[k]).cells.length=i.size) →
    (∀ k (h:k<xs.length) j (hj:j<(xs[k]).cells.length),R E ((xs[k]).cells[j]) (olds.getD (k*i.size+j) undef))→(∀ u∈olds,u.oneCell'=true) →
    (Builtin.firstCells i.size xs.length (.slice a xs.length c)).run P E.w.drew = .ok olds.toArray E.w.drew→c<xs.length+ys.length →
    ROk G E (E.S.set g (.grow (xs.length+ys.length) i.size e)) (.sl i.size false (xs++ys) tg) ((Builtin.append_ #[t,tx] ty #[.slice a xs.length c,y]).run P E.w):=by
   intro a c olds hol cx rx ox hfc hg
   have hrun:=run_append_grow_src (P:=P) E.w t tx ty e inf' z hu hinf hz a xs.length c olds (by rw [hs];exact hfc) y ys.length news hsrc' hg h63i (by rw [hb'];exact growslice_fits hg hby)
   have hge:=grownCap_ge E.w (xs.length+ys.length) c e
   have hcm:grownCap E.w (xs.length+ys.length) c e≤maxLen:=grownCap_le_maxLen E.w (xs.length+ys.length) c e h63
   obtain ⟨E',hw,k1,k2,k3,k4⟩   := append_new hE htg (Builtin.zeroCells z.cells (grownCap E.w (xs.length+ys.length) c e-(xs.length+ys.length))) (grownCap E.w (xs.length+ys.length) c e) hS hol hnl cx cy rx ry ox hsrc.one hge hcm
    (by rw [size_zeroCells,hzl,hzs]) hpos
   exact ⟨E',_,by rw [hrun,hw],k1,k2,k3,k4⟩
  cases hx with
  |slnil _ _ ht =>
   exact grows none 0 [] (by simp) (fun k h=>by simp at h) (fun k h=>by simp at h) (fun u hu=>by cases hu) (run_firstCells_none E.w.drew _ _ _ _) (by simpa using hpos)
  |sl _ _ _ ad n c f hn hc hm hf hcs hr ht =>
   subst hn
   have hcold:∀ j u,((List.range (xs.length*i.size)).map f)[j]? = some u→E.w.cell? (ad.add j)=some u:=by
    intro j u hu
    obtain ⟨hj,e⟩:=List.getElem?_eq_some_iff.1 hu
    simp only [List.length_map,List.length_range] at hj
    have:=(hf j hj).2.1
    simpa [← e] using this
   have rold:∀ k (h:k<xs.length) j (hj:j<(xs[k]).cells.length),R E ((xs[k]).cells[j]) (((List.range (xs.length*i.size)).map f).getD (k*i.size+j) undef):=by
    intro k h j hj
    have hlt:k*i.size+j<xs.length*i.size:=by
     have hj':j<i.size:=by have:=hcs k h;omega
     have:(k+1)*i.size≤xs.length*i.size:=Nat.mul_le_mul_right _ h
     rw [Nat.add_mul] at this;omega
    rw [toList_getD _ _ _ hlt]
    exact hr k h j hj
   have oold:∀ u∈(List.range (xs.length*i.size)).map f,u.oneCell'=true:=by
    intro u hu
    obtain ⟨j,hj,rfl⟩:=List.mem_map.1 hu
    exact (hf j (by simpa using hj)).2.2.2
   rcases Nat.lt_or_ge c (xs.length+ys.length) with hg|hroom
   ·exact grows (some ad) c _ (by simp) hcs rold oold (run_firstCells_some E.w.drew _ _ ad _ c _ (by simp) (by simpa using hcold)) hg
   ·
    obtain ⟨m,t',hS',hnm,htag⟩:=ht.to_grow htg
    rw [hS] at hS';injection hS' with hS';injection hS' with e1 e2 e3
    subst e1 e3
    rcases htag rfl with ⟨_,hcc⟩|⟨b,arr,hmu,had,hheap,hasz⟩
    ·omega
    ·injection had with had
     subst had
     have hfit:xs.length*i.size+0+news.length≤arr.size:=by
      rw [hasz,hnl,Nat.add_zero,← Nat.add_mul];exact Nat.mul_le_mul_right _ hroom
     obtain ⟨w',s1,s2,s3,s4⟩:=run_storeCells_put (P:=P) b e news (xs.length*i.size) 0 arr E.w hheap hfit hsrc.one
     have hrun:(Builtin.append_ #[t,tx] ty #[.slice (some ⟨b,0,none⟩) xs.length c,y]).run P E.w = .ok (.slice (some ⟨b,0,none⟩) (xs.length+ys.length) c) w':=by
      rcases hsrc'.kind with ⟨e',hk⟩|hk <;>
       simp [Builtin.append_,run_underlying hu,run_underlying hk,sizeOf,typeInfo,hinf,hsrc'.len,hroom,hsrc.cells,hs,add_form ⟨b,0,none⟩ _ rfl,s1]
     have hbase:E.base≤b:=by
      rcases hE.entry g _ hS with h|⟨b',_,h1,h2,_,_⟩
      ·rw [hmu] at h;cases h
      ·rw [hmu] at h1;injection h1 with h1;injection h1 with h1;rw [h1];exact h2
     have hput:∀ p,(putArr arr (xs.length*i.size) news).getD p undef=if xs.length*i.size≤p∧p<xs.length*i.size+news.length then news.getD (p-xs.length*i.size) undef else arr.getD p undef :=
      fun p=>putArr_getD news arr _ p (by simpa using hfit)
     have hpsize:(putArr arr (xs.length*i.size) news).size=c*i.size:=by rw [putArr_size,hasz]
     obtain ⟨k1,k2⟩:=env_grow hE (arr':=putArr arr (xs.length*i.size) news) (m:=ys.length) hmu hS hbase s3 hheap (by simpa using s2) (by rw [hpsize];exact Nat.mul_le_mul_right _ hroom) hpos (fun o ho=>by
      have h1:=hput o
      rw [if_neg (by omega)] at h1
      have ho1:o<arr.size:=by
       have:xs.length*i.size≤arr.size:=by omega
       omega
      have ho2:o<(putArr arr (xs.length*i.size) news).size:=by rw [putArr_size];exact ho1
      simp only [Array.getD,ho1,ho2,dite_true] at h1
      rw [Array.getElem?_eq_getElem ho1,Array.getElem?_eq_getElem ho2]
      exact congrArg some h1)
     refine ⟨_,_,hrun,k1,k2,rfl,?_⟩
     have hgl:g<E.S.length:=(List.getElem?_eq_some_iff.1 hS).1
     have hold0:∀ j,j<xs.length*i.size→arr.getD j undef=f j:=by
      intro j hj
      have:=(hf j hj).2.1
      rw [add_form _ _ rfl] at this
      simp only [World.cell?,hheap,Nat.zero_add] at this
      have hj2:j<arr.size:=by omega
      simp only [Option.isSome_none,Bool.false_eq_true,if_false] at this
      rw [Array.getElem?_eq_getElem hj2] at this
      injection this with this
      simp [Array.getD,hj2,this]
     have heq:∀ p,p<((List.range (xs.length*i.size)).map f).length+news.length→(putArr arr (xs.length*i.size) news).getD p undef=(((List.range (xs.length*i.size)).map f++news).toArray++(#[]:Array Value)).getD p undef:=by
      intro p hp
      rw [hput p,pair_getD _ _ _ _ hp]
      simp only [List.length_map,List.length_range] at hp ⊢
      by_cases hc2:p<xs.length*i.size
      ·rw [if_neg (by omega),if_pos hc2,hold0 p hc2,toList_getD _ _ _ hc2]
      ·rw [if_pos ⟨by omega,by omega⟩,if_neg hc2]
     obtain ⟨cc,rr⟩:=pair_rel (Q:=R _) (#[]:Array Value) (olds:=(List.range (xs.length*i.size)).map f) (by simp) hnl hcs cy (fun k h j hj=>(rold k h j hj).ext hE k1) (fun k h j hj=>(ry k h j hj).ext hE k1)
     refine .sl i.size _ _ _ _ _ (fun j=>(putArr arr (xs.length*i.size) news).getD j undef) (by simp) hroom hm (fun j hj=>?_) cc (fun k h j hj=>?_) ?_
     ·have hj2:j<(putArr arr (xs.length*i.size) news).size:=by
       rw [hpsize]
       exact Nat.lt_of_lt_of_le hj (Nat.mul_le_mul_right _ hroom)
      have hw2:w'.heap[b]? = some (.cells (putArr arr (xs.length*i.size) news) e (0,0)):=by simpa using s2
      refine ⟨rfl,?_,⟨Nat.lt_of_lt_of_le (hE.lt g b hmu) s3.size,.inr (.inr ⟨hbase,g,xs.length+ys.length,i.size,e,hmu,List.getElem?_set_self hgl,by simpa using hj⟩)⟩,?_⟩
      ·rw [add_form _ _ rfl]
       simp only [World.cell?]
       rw [hw2]
       simp [Array.getD,hj2]
      ·show Value.oneCell' ((putArr arr (xs.length*i.size) news).getD j undef)=true
       rw [hput j]
       split
       ·next hc2=>exact hsrc.one _ (by
         have:j-xs.length*i.size<news.length:=by omega
         simp [List.getD,this])
       ·next hc2 =>
        have hj3:j<xs.length*i.size:=by
         rw [Nat.add_mul] at hj;rw [hnl] at hc2;omega
        rw [hold0 j hj3]
        exact (hf j hj3).2.2.2
     ·have hlt:k*i.size+j<((List.range (xs.length*i.size)).map f).length+news.length:=by
       have hj':j<i.size:=by rw [← cc k h];exact hj
       have h':k<xs.length+ys.length:=by simpa using h
       have:(k+1)*i.size≤(xs.length+ys.length)*i.size:=Nat.mul_le_mul_right _ h'
       rw [Nat.add_mul,Nat.add_mul] at this
       simp only [List.length_map,List.length_range,hnl];omega
      have:=rr k h j hj
      rw [← heq _ hlt] at this
      exact this
     ·exact tagOk_row htg (List.getElem?_set_self hgl) (Nat.le_refl _) fun _=>⟨b,_,hmu,rfl,by simpa using s2,hpsize⟩
end
end Go.Am
end
section
namespace Go.Am
open Go
section
variable {P:Program} {G:Nat→Option AVal} {E:Env}
theorem src_more {S:St} {sz:Nat} {v:AVal} (x:ABox) (h:srcOk S sz v):srcOf (S++[x]) v=srcOf S v∧srcOk (S++[x]) sz v:=by
 cases v<;>try (exact ⟨rfl,h⟩)
 case view i off n cap =>
  obtain ⟨h1,cs,t,hS,h2,h3⟩:=h
  have hi:i<S.length:=(List.getElem?_eq_some_iff.1 hS).1
  have e:(S++[x])[i]? = some (.cells cs t):=by rw [List.getElem?_append_left hi];exact hS
  refine ⟨by simp [srcOf,hS,e],h1,cs,t,e,h2,h3⟩
theorem append_full {t tx ty e:TypeId} {i:TI} (hE:Wf G E) (hu:P.underlying t=some (.slice e)) (hi:i.ok P e) {nl:Bool} {xs:List AVal} {x y:Value} {v:AVal}
  (hx:R E (.sl i.size nl xs .full) x) (hy:R E v y) (hok:srcOk E.S i.size v)
  (hks:∀ s,v = .str s→P.underlying tx=some .string) (hkl:(∀ s,v ≠ .str s)→∃ e',P.underlying tx=some (.slice e'))
  (h63:xs.length+(srcOf E.S v).length≤maxLen) (hby:(xs.length+(srcOf E.S v).length)*i.bytes≤140737488355328) :
  ROk G E (E.S++[.grow (xs.length+(srcOf E.S v).length) i.size e]) (.sl i.size (nl&&(srcOf E.S v).isEmpty) (xs++srcOf E.S v) (.grow E.S.length)) ((Builtin.append_ #[t,tx] ty #[x,y]).run P E.w):=by
 obtain ⟨k1,k2⟩:=env_ghost hE xs.length i.size e
 obtain ⟨m1,m2⟩:=src_more (.grow xs.length i.size e) hok
 have hmu:(E.mu++[none])[E.S.length]? = some none:=by rw [← hE.len];simp
 have hS0:(E.S++[ABox.grow xs.length i.size e])[E.S.length]? = some (.grow xs.length i.size e):=by simp
 have hx':R { E with mu:=E.mu++[none],S:=E.S++[.grow xs.length i.size e] } (.sl i.size nl xs (.grow E.S.length)) x:=by
  cases hx with
  |slnil _ _ ht=>exact .slnil _ _ ⟨0,e,hS0,Nat.le_refl _,fun _=>.inl ⟨hmu,rfl⟩⟩
  |sl _ _ _ ad n c f hn hc hm hf hcs hr ht =>
   refine .sl _ _ _ ad n c f hn hc hm (fun j hj=>(hf j hj).ext k1 hE.im) hcs (fun k h j hj=>(hr k h j hj).ext hE k1) ?_
   subst hn
   exact ⟨xs.length,e,hS0,Nat.le_refl _,fun _=>.inl ⟨hmu,ht⟩⟩
 have:=append_grow (E:={ E with mu:=E.mu++[none],S:=E.S++[.grow xs.length i.size e] }) (tx:=tx) (ty:=ty) k2 hu hi (.inl rfl) hx' hS0 (hy.ext hE k1) m2 hks hkl (by rw [m1];exact h63) (by rw [m1];exact hby)
 rw [m1] at this
 obtain ⟨E',z,h1,h2,h3,h4,h5⟩:=this
 refine ⟨E',z,h1,k1.trans hE h2,h3,?_,h5⟩
 rw [h4]
 simp
theorem append_nil {t tx ty e:TypeId} {i:TI} (hE:Wf G E) (hu:P.underlying t=some (.slice e)) (hi:i.ok P e) {sz:Nat} {tg:Tag} {x y:Value} {v:AVal}
  (hx:R E (.sl sz true [] tg) x) (hy:R E v y) (hok:srcOk E.S i.size v)
  (hks:∀ s,v = .str s→P.underlying tx=some .string) (hkl:(∀ s,v ≠ .str s)→∃ e',P.underlying tx=some (.slice e'))
  (h63:(srcOf E.S v).length≤maxLen) (hby:(srcOf E.S v).length*i.bytes≤140737488355328) :
  ROk G E (E.S++[.grow (srcOf E.S v).length i.size e]) (.sl i.size (srcOf E.S v).isEmpty (srcOf E.S v) (.grow E.S.length)) ((Builtin.append_ #[t,tx] ty #[x,y]).run P E.w):=by
 have hx':R E (.sl i.size true [] .full) x:=by
  cases hx with
  |slnil=>exact .slnil _ _ rfl
 have:=append_full (tx:=tx) (ty:=ty) hE hu hi hx' hy hok hks hkl (by simpa using h63) (by simpa using hby)
 simpa using this
theorem src_first (hE:Wf G E) {v:AVal} {x:Value} (hx:R E v x) (hok:srcOk E.S 1 v) (hone:∀ y∈srcOf E.S v,y.one=true) :
  ∃ vs:List Value,vs.length=(srcOf E.S v).length∧(∀ w,(Builtin.lenOf x).run P w = .ok (srcOf E.S v).length w) ∧
   (∀ m,m≤(srcOf E.S v).length→(Builtin.firstCells 1 m x).run P E.w = .ok (vs.take m).toArray E.w) ∧
   ∀ k (h:k<(srcOf E.S v).length),R E ((srcOf E.S v)[k]) (vs.getD k undef)∧(vs.getD k undef).oneCell'=true:=by
 have e0:∀ (c:AVal) (hc:c.cells=[c]) (h0:0<c.cells.length),c.cells[0]=c:=fun c hc h0=>by simpa using List.getElem_of_eq hc h0
 cases hx<;>try (exact (id hok:False).elim)
 case str b l hl =>
  subst hl
  have hlen:(srcOf E.S (.str b.data.toList)).length=b.size:=by simp [srcOf,bl]
  refine ⟨byteCells b,by rw [hlen,byteCells_length],fun w=>by rw [hlen];rfl,fun m hm=>?_,fun k h=>?_⟩
  ·simp only [Builtin.firstCells,Sem.run_pure]
   congr 1
   apply Array.ext'
   simp [byteCells,List.map_take]
  ·have hkb:k<b.data.size:=by rw [hlen] at h;exact h
   have e:(byteCells b).getD k undef = .int .u8 (b.data[k].toNat:Int):=by
    simp [byteCells,List.getD,Array.getElem?_eq_getElem hkb]
   rw [e]
   refine ⟨?_,rfl⟩
   simp only [srcOf,bl,List.getElem_map,bv,Array.getElem_toList]
   exact .int _ _
 case slnil sz' tg ht =>
  exact ⟨[],by simp [srcOf],fun w=>by simp [srcOf,Builtin.lenOf],fun m hm=>by simp [Builtin.firstCells],fun k h=>by simp [srcOf] at h⟩
 case sl sz' xs tg ad n c f hn hc hm hf hcs hr ht =>
  subst hn
  have hsz1:xs≠[]→sz'=1:=fun hne=>hok.resolve_right hne
  refine ⟨(List.range xs.length).map f,by simp [srcOf],fun w=>by simp [srcOf,Builtin.lenOf],fun m hm=>?_,fun k h=>?_⟩
  ·simp only [srcOf] at hm
   have:=run_firstCells_some (P:=P) E.w 1 m ad m c (((List.range xs.length).map f).take m) (by simp;omega) (fun j u hu=>by
    obtain ⟨hj,e⟩:=List.getElem?_eq_some_iff.1 hu
    simp only [List.length_take,List.length_map,List.length_range] at hj
    have hne:xs≠[]:=by rintro rfl;simp at hj
    have:=(hf j (by rw [hsz1 hne];omega)).2.1
    simp only [List.getElem_take,List.getElem_map,List.getElem_range] at e
    rw [this,e])
   exact this
  ·simp only [srcOf] at h ⊢
   have hne:xs≠[]:=by rintro rfl;simp at h
   have h1:=hsz1 hne
   rw [toList_getD _ _ _ h]
   have hc1:=one_cells (hone xs[k] (by simp [srcOf]))
   have hl0:0<(xs[k]).cells.length:=by rw [hc1];simp
   have:=hr k h 0 hl0
   rw [e0 _ hc1,h1,Nat.mul_one,Nat.add_zero] at this
   exact ⟨this,(hf k (by rw [h1];omega)).2.2.2⟩
 case view i off n cap b hnc hm hb =>
  obtain ⟨_,cs,t,hS,hfit,hone'⟩:=hok
  obtain ⟨b',arr,g1,g2,g3,g4⟩:=hE.entry i _ hS
  have:b'=b:=by rw [hm] at g1;injection g1 with g1;injection g1 with g1;exact g1.symm
  subst this
  have hsrc:srcOf E.S (.view i off n cap)=(cs.drop off).take n:=by simp [srcOf,hS]
  have hlen:((cs.drop off).take n).length=n:=by simp;omega
  rw [hsrc]
  refine ⟨(List.range n).map fun j=>arr.getD (off+j) undef,by simp;omega,fun w=>by rw [hlen];rfl,fun m hm'=>?_,fun k h=>?_⟩
  ·rw [hlen] at hm'
   refine run_firstCells_some (P:=P) E.w 1 m ⟨b',off,none⟩ m cap _ (by simp;omega) (fun j u hu=>?_)
   obtain ⟨hj,e⟩:=List.getElem?_eq_some_iff.1 hu
   simp only [List.length_take,List.length_map,List.length_range] at hj
   have hlt:off+j<arr.size:=by omega
   rw [add_form _ _ rfl]
   simp only [List.getElem_take,List.getElem_map,List.getElem_range] at e
   simp [World.cell?,g2,hlt,← e,Array.getD]
  ·rw [hlen] at h
   rw [toList_getD _ _ _ h]
   have:=g4 (off+k) (by omega)
   simpa using this
theorem copy_view {t tx ty e:TypeId} {i:TI} (hE:Wf G E) (hu:P.underlying t=some (.slice e)) (hi:i.ok P e) (h1:i.size=1) {b off n cap:Nat} {x y:Value} {v:AVal} {bs:List AVal} {tb:TypeId}
  (hx:R E (.view b off n cap) x) (hS:E.S[b]? = some (.cells bs tb)) (hfit:off+n≤bs.length) (hy:R E v y) (hok:srcOk E.S 1 v) (hone:∀ y∈srcOf E.S v,y.one=true) :
  ROk G E (E.S.set b (.cells (putCells bs off ((srcOf E.S v).take n)) tb)) (.int .i64 (min (srcOf E.S v).length n:Nat)) ((Builtin.copy_ #[t,tx] ty #[x,y]).run P E.w):=by
 obtain ⟨vs,hvl,hlen,hfc,hr⟩:=src_first (P:=P) hE hy hok hone
 obtain ⟨_,inf,z,hinf,hs,_,_,_,_,_,_,_⟩:=hi
 generalize hys:srcOf E.S v=ys at *
 cases hx with
 |view _ _ _ _ c hnc hm hb =>
  obtain ⟨c',arr,g1,g2,g3,g4⟩:=hE.entry b _ hS
  have:c'=c:=by rw [hm] at g1;injection g1 with g1;injection g1 with g1;exact g1.symm
  subst this
  have htl:(vs.take n).length=min ys.length n:=by rw [List.length_take,hvl];omega
  obtain ⟨w',s1,s2,s3,_⟩:=run_storeCells_put (P:=P) c' tb (vs.take n) off 0 arr E.w g2 (by rw [htl,g3];omega) (fun u hu=>by
   obtain ⟨k,hk,rfl⟩:=List.getElem_of_mem (List.mem_of_mem_take hu)
   have:=(hr k (by omega)).2
   simpa [List.getD,hk] using this)
  have hmin:Nat.min ys.length n=min ys.length n:=rfl
  have hrun:(Builtin.copy_ #[t,tx] ty #[.slice (some ⟨c',off,none⟩) n cap,y]).run P E.w = .ok (.int .i64 (min ys.length n:Nat)) w':=by
   have hf:=hfc (min ys.length n) (by omega)
   have htake:vs.take (min ys.length n)=vs.take n:=by
    rcases Nat.le_total n ys.length with h|h
    ·rw [Nat.min_eq_right h]
    ·rw [Nat.min_eq_left h,← hvl,List.take_length,List.take_of_length_le (by omega)]
   rw [htake] at hf
   simp only [Builtin.copy_,List.getElem?_toArray,List.getElem?_cons_zero,List.getElem?_cons_succ,Sem.run_bind,run_underlying hu,Result.andThen_ok,hlen,hmin,run_sizeOf hinf,hs,h1,hf,s1,Sem.run_pure]
   rfl
  obtain ⟨k1,k2⟩:=env_set hE hm s3 _ (.cells (putCells bs off (ys.take n)) tb) hS rfl rfl (fun hext=>by
   refine ⟨c',_,hm,by simpa using s2,by rw [putArr_size,putCells_length,g3],?_⟩
   refine put_rel (Q:=fun a u=>R _ a u∧u.oneCell'=true) (ys.take n) (vs.take n) bs arr off (by rw [htl,List.length_take];omega) (Nat.le_of_eq g3.symm) (fun j hj=>?_) (fun j hj=>⟨(g4 j hj).1.ext hE hext,(g4 j hj).2⟩)
   rw [List.length_take] at hj
   have:=hr j (by omega)
   have e:(vs.take n).getD j undef=vs.getD j undef:=by
    have:j<n:=by omega
    simp [List.getD,List.getElem?_take,this]
   rw [e,List.getElem_take]
   exact ⟨this.1.ext hE hext,this.2⟩)
  exact ⟨_,_,hrun,k1,k2,rfl,.int _ _⟩
def unb:AVal→UInt8
 |.int _ n=>UInt8.ofNat n.toNat
 |_=>0
theorem unb_bv (b:UInt8):unb (bv b)=b:=by simp [unb,bv]
theorem unbl_bl (l:List UInt8):(bl l).map unb=l:=by simp [bl,Function.comp_def,unb_bv]
theorem toString_sl {src dst e:TypeId} (hE:Wf G E) (hs:P.underlying src=some (.slice e)) (he:P.underlying e=some (.int .u8)) (hd:P.underlying dst=some .string) {nl:Bool} {l:List UInt8} {tg:Tag} {x:Value}
  (hx:R E (.sl 1 nl (bl l) tg) x):ROk G E E.S (.str l) ((convert src dst x).run P E.w):=by
 generalize hxs:bl l=xs at hx
 cases hx with
 |slnil =>
  have:l=[]:=by simpa [bl] using hxs
  subst this
  exact .pure hE (x:=.string .empty) (by simp [convert,run_underlying hs,run_underlying hd,run_underlying he,Conv.bytesToString]) (.str _ _ rfl)
 |sl _ _ _ ad n c f hn hc hm hf hcs hr ht =>
  subst hxs
  subst hn
  have hlen:(bl l).length=l.length:=by simp [bl]
  have hfv:∀ j (hj:j<l.length),f j = .int .u8 (l[j].toNat:Int):=by
   intro j hj
   have h1:j<(bl l).length:=by omega
   have h2:0<((bl l)[j]).cells.length:=by simp [bl,bv,AVal.cells]
   have:=hr j h1 0 h2
   simp only [bl,List.getElem_map,bv,AVal.cells,List.getElem_cons_zero,Nat.mul_one,Nat.add_zero] at this
   exact this.int_inv
  have hl:(loadCells ad (bl l).length).run P E.w = .ok (l.map fun b=>Value.int .u8 (b.toNat:Int)).toArray E.w:=by
   have:=run_loadCells_list (P:=P) E.w ad (l.map fun b=>Value.int .u8 (b.toNat:Int)) (fun j v hv=>by
    obtain ⟨hj,e⟩:=List.getElem?_eq_some_iff.1 hv
    simp only [List.length_map] at hj
    have h3:=(hf j (by omega)).2.1
    rw [h3,hfv j hj,← e];simp)
   rw [List.length_map,← hlen] at this
   exact this
  have hb:=run_bytesToString (P:=P) E.w ad (bl l).length c (l.map fun b=>(b.toNat:Int)) (by rw [hl,List.map_map];rfl)
  have hfold:∀ (l:List UInt8) (r:ByteArray),((l.map fun b=>(b.toNat:Int)).foldl (fun r n=>r.push (UInt8.ofNat n.toNat)) r).data.toList=r.data.toList++l:=by
   intro l
   induction l with
   |nil=>intro r;simp
   |cons b l ih=>intro r;simp only [List.map_cons,List.foldl_cons,ih];simp
  refine .pure hE (x:=.string ((l.map fun b=>(b.toNat:Int)).foldl (fun r n=>r.push (UInt8.ofNat n.toNat)) ByteArray.empty)) ?_ (.str _ _ (by rw [hfold];rfl))
  simp only [convert,run_underlying hs,run_underlying hd,Sem.run_bind,Result.andThen_ok,run_underlying he,hb]
theorem toString_view {src dst e:TypeId} (hE:Wf G E) (hs:P.underlying src=some (.slice e)) (he:P.underlying e=some (.int .u8)) (hd:P.underlying dst=some .string) {i off n cap:Nat} {cs:List AVal} {tb:TypeId} {l:List UInt8} {x:Value}
  (hS:E.S[i]? = some (.cells cs tb)) (hfit:off+n≤cs.length) (hl:(cs.drop off).take n=bl l) (hx:R E (.view i off n cap) x):ROk G E E.S (.str l) ((convert src dst x).run P E.w):=by
 cases hx with
 |view _ _ _ _ b hnc hm hb =>
  obtain ⟨b',arr,g1,g2,g3,g4⟩:=hE.entry i _ hS
  have:b'=b:=by rw [hm] at g1;injection g1 with g1;injection g1 with g1;exact g1.symm
  subst this
  have hn:l.length=n:=by
   have:=congrArg List.length hl
   simp only [List.length_take,List.length_drop,bl,List.length_map] at this
   omega
  have hfv:∀ j (hj:j<l.length),arr.getD (off+j) undef = .int .u8 (l[j].toNat:Int):=by
   intro j hj
   have hj2:off+j<cs.length:=by omega
   have h1:=(g4 (off+j) hj2).1
   have h2:cs[off+j]=(bl l)[j]'(by simpa [bl] using hj):=by
    have:((cs.drop off).take n)[j]'(by rw [hl];simpa [bl] using hj)=(bl l)[j]'(by simpa [bl] using hj):=List.getElem_of_eq hl _
    rw [← this,List.getElem_take,List.getElem_drop]
   rw [h2] at h1
   simp only [bl,List.getElem_map,bv] at h1
   exact h1.int_inv
  have hl2:(loadCells ⟨b',off,none⟩ n).run P E.w = .ok (l.map fun b=>Value.int .u8 (b.toNat:Int)).toArray E.w:=by
   have:=run_loadCells_list (P:=P) E.w ⟨b',off,none⟩ (l.map fun b=>Value.int .u8 (b.toNat:Int)) (fun j v hv=>by
    obtain ⟨hj,e⟩:=List.getElem?_eq_some_iff.1 hv
    simp only [List.length_map] at hj
    have h3:=hfv j hj
    have hlt:off+j<arr.size:=by omega
    rw [add_form _ _ rfl]
    rw [List.getElem_map] at e
    subst e
    rw [← h3]
    simp [World.cell?,g2,hlt,Array.getD])
   rw [List.length_map,hn] at this
   exact this
  have hb:=run_bytesToString (P:=P) E.w ⟨b',off,none⟩ n cap (l.map fun b=>(b.toNat:Int)) (by rw [hl2,List.map_map];rfl)
  have hfold:∀ (l:List UInt8) (r:ByteArray),((l.map fun b=>(b.toNat:Int)).foldl (fun r n=>r.push (UInt8.ofNat n.toNat)) r).data.toList=r.data.toList++l:=by
   intro l
   induction l with
   |nil=>intro r;simp
   |cons b l ih=>intro r;simp only [List.map_cons,List.foldl_cons,ih];simp
  refine .pure hE (x:=.string ((l.map fun b=>(b.toNat:Int)).foldl (fun r n=>r.push (UInt8.ofNat n.toNat)) ByteArray.empty)) ?_ (.str _ _ (by rw [hfold];rfl))
  simp only [convert,run_underlying hs,run_underlying hd,Sem.run_bind,Result.andThen_ok,run_underlying he,hb]
theorem toBytes_str {src dst e:TypeId} (hE:Wf G E) (hs:P.underlying src=some .string) (hd:P.underlying dst=some (.slice e)) (he:P.underlying e=some (.int .u8)) {l:List UInt8} {x:Value}
  (hx:R E (.str l) x) (hlen:l.length≤maxLen):ROk G E E.S (.sl 1 false (bl l) .any) ((convert src dst x).run P E.w):=by
 cases hx with
 |str b _ hb =>
  subst hb
  have hbl:b.data.toList.length=b.size:=rfl
  rw [hbl] at hlen
  generalize hq:(Question.appendCap b.size 0 e).cut (E.w.tape E.w.drawn (.appendCap b.size 0 e))=cap
  have hcap:b.size≤cap∧cap≤maxLen:=by
   rw [← hq]
   simp only [Question.cut,maxLen] at hlen ⊢
   have:E.w.tape E.w.drawn (Question.appendCap b.size 0 e)%(2 ^ 63-b.size)<2 ^ 63-b.size:=Nat.mod_lt _ (by omega)
   omega
  let arr:Array Value:=(b.data.map fun c=>Value.int .u8 (c.toNat:Int))++Array.replicate (cap-b.size) (.int .u8 0)
  have hasz:arr.size=cap:=by simp [arr];have:b.data.size=b.size:=rfl;omega
  have hrun:∃ w',(convert src dst (.string b)).run P E.w = .ok (.slice (some ⟨E.w.heap.size,0,none⟩) b.size cap) w'∧E.w.grownBy w' none∧(∃ fz,w'.heap[E.w.heap.size]? = some (.cells arr e fz)):=by
   refine ⟨(E.w.drew.alloc (.cells arr e)).freeze ⟨E.w.heap.size,arr.size,none⟩ 1,?_,?_,?_⟩
   ·have hsh:(E.w.drew.alloc (.cells arr e)).shape? E.w.heap.size=some (e,arr.size):=by
     have:=heap_new E.w.drew (.cells arr e)
     simp only [World.shape?]
     rw [show E.w.heap.size=E.w.drew.heap.size from rfl,this]
    simp only [convert,run_underlying hs,run_underlying hd,Sem.run_bind,Result.andThen_ok,run_underlying he,Conv.stringToBytes]
    simp only [choose,Sem.run,Question.forced,Bool.false_eq_true,if_false,Result.andThen_ok,hq,newRow,newObj,Sem.run_bind,Sem.run_pure,markStringish,shape,freeze]
    show Result.andThen _ _=_
    have h2:World.shape? { E.w.drew with heap:=E.w.drew.heap.push (.cells arr e) } E.w.drew.heap.size=some (e,arr.size):=hsh
    simp only [World.drew] at h2 ⊢
    simp only [arr] at h2
    simp only [h2,Result.andThen_ok,Sem.run,Sem.run_bind]
    rfl
   ·refine ⟨rfl,rfl,rfl,?_,fun k hk _=>?_⟩
    ·unfold World.freeze;simp
    ·have h1:=Go.RowKit.Below.heap_alloc E.w.drew (.cells arr e) k hk
     rw [show E.w.drew.heap[k]? = E.w.heap[k]? from rfl] at h1
     rw [← h1]
     unfold World.freeze
     simp only [Nat.succ_ne_zero,if_false]
     rw [Array.getElem?_modify,if_neg (by omega)]
   ·refine ⟨(arr.size,arr.size+1),?_⟩
    have h1:=heap_new E.w.drew (.cells arr e)
    rw [show E.w.drew.heap.size=E.w.heap.size from rfl] at h1
    unfold World.freeze
    simp only [Nat.succ_ne_zero,if_false]
    rw [Array.getElem?_modify,if_pos rfl,h1]
    simp
  obtain ⟨w',h1,h2,fz,h3⟩:=hrun
  obtain ⟨k1,k2⟩:=env_grown hE h2
  refine ⟨_,_,h1,k1,k2,rfl,?_⟩
  have hv:∀ j (hj:j<b.data.size),arr.getD j undef = .int .u8 (b.data[j].toNat:Int):=fun j hj=>by
   have hja:j<arr.size:=by rw [hasz];have:b.data.size=b.size:=rfl;omega
   rw [Array.getD_eq_getD_getElem?]
   simp only [arr]
   rw [Array.getElem?_append_left (by simpa using hj)]
   simp [Array.getElem?_eq_getElem hj]
  refine .sl 1 _ _ _ _ _ (fun j=>arr.getD j undef) (by simp [bl]) hcap.1 hcap.2 (fun j hj=>?_) (fun k hk=>by simp [bl,bv,AVal.cells]) (fun k hk j hj=>?_) trivial
  ·have hjb:j<b.data.size:=by rw [Nat.mul_one] at hj;exact hj
   have hja:j<arr.size:=by rw [hasz];have:b.data.size=b.size:=rfl;omega
   refine ⟨rfl,?_,?_,by rw [hv j hjb];rfl⟩
   ·rw [add_form _ _ rfl]
    simp only [World.cell?,h3]
    simp [Array.getD,hja]
   ·have hlt:E.w.heap.size<w'.heap.size:=by
     rcases Nat.lt_or_ge E.w.heap.size w'.heap.size with h|h
     ·exact h
     ·rw [Array.getElem?_eq_none h] at h3;cases h3
    refine ⟨hlt,.inr (.inl ⟨hE.base,fun i hi=>?_⟩)⟩
    have h2:E.w.heap.size<E.w.heap.size:=hE.lt i _ hi
    omega
  ·have hkb:k<b.data.size:=by simpa [bl] using hk
   have hj0:j=0:=by simp [bl,bv,AVal.cells] at hj;omega
   subst hj0
   rw [Nat.mul_one,Nat.add_zero,hv k hkb]
   simp only [bl,List.getElem_map,bv,AVal.cells,List.getElem_cons_zero,Array.getElem_toList]
   exact .int _ _
end
end Go.Am
end
section
namespace Go.Am
open Go
section
variable {P:Program} {G:Nat→Option AVal} {E:Env}
theorem env_kill (hE:Wf G E) {i:Nat} {cs:List AVal} {t:TypeId} (hS:E.S[i]? = some (.row cs t)) :
  Ext E { E with S:=E.S.set i .dead }∧Wf G { E with S:=E.S.set i .dead }:=by
 have hi:i<E.S.length:=(List.getElem?_eq_some_iff.1 hS).1
 have hxt:Ext E { E with S:=E.S.set i .dead }:=by
  refine ⟨rfl,rfl,rfl,Nat.le_refl _,rfl,rfl,rfl,by simp,fun c _ hf=>⟨hf,.refl _ _ _⟩,fun j z h hz=>⟨rfl,?_⟩,fun j n sz q h=>?_,fun j c o h hc=>?_,fun j cs' t' h hj=>?_⟩
  ·by_cases e:i=j
   ·subst e;exact ⟨.dead,List.getElem?_set_self hi,rfl⟩
   ·exact ⟨z,(List.getElem?_set_ne e).trans h,hz⟩
  ·have e:i≠j:=by rintro rfl;rw [hS] at h;cases h
   exact ⟨n,(List.getElem?_set_ne e).trans h,Nat.le_refl _,fun _=>⟨rfl,fun _ _=>rfl⟩,fun c hc=>⟨fun _ _=>rfl,.inl hc⟩⟩
  ·have e:i≠j:=by rintro rfl;rw [hS] at h;cases h
   exact ⟨(List.getElem?_set_ne e).trans h,rfl⟩
  ·have e:i≠j:=by
    rintro rfl
    rw [List.getElem?_set_self hi] at h;cases h
   exact ⟨⟨cs',t',(List.getElem?_set_ne e).symm.trans h⟩,fun _ _=>.same rfl⟩
 refine ⟨hxt,by simp [hE.len],fun j k b h1 h2 d=>hE.inj j k b h1 h2 fun e=>d (share_set hS (fun _=>rfl) nofun e),hE.lt,hE.base,hE.im,fun j z h=>?_,fun g v h=>(hE.glob g v h).ext hE hxt⟩
 by_cases e:i=j
 ·subst e
  have:z = .dead:=by simpa [hi] using h.symm
  subst this
  trivial
 ·exact (hE.entry j z ((List.getElem?_set_ne e).symm.trans h)).keep hE hxt rfl fun _ _=>rfl
theorem env_take (hE:Wf G E) {i b:Nat} {cs cs':List AVal} {t t':TypeId} {w':World} (hS:E.S[i]? = some (.row cs t)) (hm:E.mu[i]? = some (some b)) (hg:E.w.grownBy w' (some b)) (hk:KeptSz E.w w' b)
  (hx:Ext E { E with w:=w',mu:=E.mu++[some b],S:=E.S.set i .dead++[.row cs' t'] }→entryOk { E with w:=w',mu:=E.mu++[some b],S:=E.S.set i .dead++[.row cs' t'] } E.S.length (.row cs' t')) :
  Ext E { E with w:=w',mu:=E.mu++[some b],S:=E.S.set i .dead++[.row cs' t'] }∧Wf G { E with w:=w',mu:=E.mu++[some b],S:=E.S.set i .dead++[.row cs' t'] }:=by
 have hi:i<E.S.length:=(List.getElem?_eq_some_iff.1 hS).1
 have hblk:∀ c,c<E.w.heap.size→c≠b→w'.heap[c]? = E.w.heap[c]?:=fun c hc hne=>hg.block c hc (by simpa using hne)
 have hother:∀ (j c:Nat) (z:ABox),j≠i→E.mu[j]? = some (some c)→E.S[j]? = some z→z ≠ .dead→w'.heap[c]? = E.w.heap[c]?:=fun j c z hj h hz hd =>
  hblk c (hE.lt j c h) (fun e=>hj (hE.one (e▸h) hm hz hS hd nofun))
 have lt_of:∀ (j:Nat) (y:ABox),E.S[j]? = some y→j<E.S.length:=fun j y h=>(List.getElem?_eq_some_iff.1 h).1
 have hmu:∀ j:Nat,j<E.S.length→(E.mu++[some b])[j]? = E.mu[j]?:=fun j hj=>List.getElem?_append_left (by rw [hE.len];exact hj)
 have hSS:∀ j:Nat,j<E.S.length→i≠j→(E.S.set i .dead++[ABox.row cs' t'])[j]? = E.S[j]?:=fun j hj hne=>by
  rw [List.getElem?_append_left (by simpa using hj),List.getElem?_set_ne hne]
 have hSi:(E.S.set i .dead++[ABox.row cs' t'])[i]? = some .dead:=by
  rw [List.getElem?_append_left (by simpa using hi),List.getElem?_set_self hi]
 have hSl:(E.S.set i .dead++[ABox.row cs' t'])[E.S.length]? = some (.row cs' t'):=by
  rw [List.getElem?_append_right (by simp)];simp
 have hmem:∀ (j c:Nat),(E.mu++[some b])[j]? = some (some c)→(j<E.S.length∧E.mu[j]? = some (some c))∨(j=E.S.length∧c=b):=by
  intro j c h
  rw [List.getElem?_append] at h
  split at h
  ·exact .inl ⟨by rw [← hE.len];assumption,h⟩
  ·rcases hq:j-E.mu.length with _|k
   ·rw [hq] at h
    refine .inr ⟨by rw [← hE.len];omega,?_⟩
    simp at h;exact h.symm
   ·rw [hq] at h;simp at h
 have hxt:Ext E { E with w:=w',mu:=E.mu++[some b],S:=E.S.set i .dead++[.row cs' t'] }:=by
  refine ⟨rfl,rfl,rfl,hg.size,hg.os,hg.tape,hg.output,by simp,fun c hc hf=>⟨fun j h=>?_,.inl (hblk c hc fun e=>hf i (e▸hm))⟩,fun j z h hz=>⟨hmu j (lt_of j z h),?_⟩,fun j n sz q h=>?_,fun j c o h hc=>?_,fun j cs1 t1 h hj=>?_⟩
  ·rcases hmem j c h with ⟨_,k⟩|⟨_,k⟩
   ·exact hf j k
   ·exact hf i (k▸hm)
  ·by_cases e:i=j
   ·subst e;exact ⟨.dead,hSi,rfl⟩
   ·exact ⟨z,(hSS j (lt_of j z h) e).trans h,hz⟩
  ·have e:i≠j:=by rintro rfl;rw [hS] at h;cases h
   exact ⟨n,(hSS j (lt_of j _ h) e).trans h,Nat.le_refl _,fun _=>⟨hmu j (lt_of j _ h),fun c hc=>hother j c _ (Ne.symm e) hc h nofun⟩,
    fun c hc=>⟨fun o _=>cell_same (hother j c _ (Ne.symm e) hc h nofun) _ _,.inl ((hmu j (lt_of j _ h)).trans hc)⟩⟩
  ·have e:i≠j:=by rintro rfl;rw [hS] at h;cases h
   exact ⟨(hSS j (lt_of j _ h) e).trans h,hother j c _ (Ne.symm e) hc h nofun⟩
  ·have e:i≠j:=by rintro rfl;rw [hSi] at h;cases h
   have h':=(hSS j hj e).symm.trans h
   exact ⟨⟨cs1,t1,h'⟩,fun c hc=>.same (hother j c _ (Ne.symm e) hc h' nofun)⟩
 refine ⟨hxt,by simp [hE.len],fun j k c h1 h2 d=>?_,fun j c h=>?_,Nat.le_trans hE.base hg.size,fun c o hc ho=>(hxt.free c (Nat.lt_of_lt_of_le hc hE.base) (hE.im c o hc ho)).1,fun j z h=>?_,fun g v h=>(hE.glob g v h).ext hE hxt⟩
 ·
  have shI:∀ j:Nat,j<E.S.length→E.mu[j]? = some (some b)→(E.S.set i .dead++[ABox.row cs' t'])[j]? = some .dead:=by
   intro j hj hmj
   by_cases e:i=j
   ·subst e;exact hSi
   ·rw [hSS j hj e]
    refine Classical.byContradiction fun hd=>e (hE.inj i j b hm hmj fun ⟨k1,k2,k3⟩=>?_)
    rcases k1 with k1|k1
    ·rw [hS] at k1;cases k1
    ·exact hd k1
  rcases hmem j c h1 with ⟨l1,m1⟩|⟨e1,c1⟩<;>rcases hmem k c h2 with ⟨l2,m2⟩|⟨e2,c2⟩
  ·refine hE.inj j k c m1 m2 fun e=>d ?_
   have:=share_set (y:=.dead) hS (fun _=>rfl) nofun e
   exact share_push (by simpa using l1) (by simpa using l2) this
  ·exfalso
   subst e2 c2
   exact d ⟨.inl (shI j l1 m1),⟨_,shI j l1 m1,rfl⟩,⟨_,hSl,rfl⟩⟩
  ·exfalso
   subst e1 c1
   exact d ⟨.inr (shI k l2 m2),⟨_,hSl,rfl⟩,⟨_,shI k l2 m2,rfl⟩⟩
  ·omega
 ·rcases hmem j c h with ⟨_,m1⟩|⟨_,c1⟩
  ·exact Nat.lt_of_lt_of_le (hE.lt j c m1) hg.size
  ·subst c1;exact Nat.lt_of_lt_of_le (hE.lt i c hm) hg.size
 ·have h':(E.S.set i .dead++[ABox.row cs' t'])[j]? = some z:=h
  by_cases hj:j<E.S.length
  ·by_cases e:i=j
   ·subst e
    rw [hSi] at h'
    rw [← Option.some.inj h'];trivial
   ·rw [hSS j hj e] at h'
    by_cases hd:z = .dead
    ·subst hd;trivial
    ·exact (hE.entry j z h').keep hE hxt (hmu j hj) fun c hc=>hother j c z (Ne.symm e) hc h' hd
  ·have hj2:j=E.S.length:=by
    have:=(List.getElem?_eq_some_iff.1 h').1
    simp at this;omega
   subst hj2
   rw [hSl] at h'
   rw [← Option.some.inj h']
   exact hx hxt
def flatC (xs:List AVal):List AVal:=(xs.map AVal.cells).flatten
theorem flat_rel {sz:Nat} {Q:AVal→Value→Prop}:∀ (ys:List AVal) (news:List Value),(∀ k (h:k<ys.length),(ys[k]).cells.length=sz) →
  (∀ k (h:k<ys.length) j (hj:j<(ys[k]).cells.length),Q ((ys[k]).cells[j]) (news.getD (k*sz+j) undef)) →
  (flatC ys).length=ys.length*sz∧∀ j (h:j<(flatC ys).length),Q ((flatC ys)[j]) (news.getD j undef)
 |[],news,_,_=>⟨by simp [flatC],fun j h=>by simp [flatC] at h⟩
 |y::ys,news,hc,hr=>by
  have h0:y.cells.length=sz:=hc 0 (by simp)
  obtain ⟨l,r⟩:=flat_rel (sz:=sz) (Q:=Q) ys (news.drop sz) (fun k h=>hc (k+1) (by simpa using h)) (fun k h j hj=>by
   have:=hr (k+1) (by simpa using h) j hj
   have e:(news.drop sz).getD (k*sz+j) undef=news.getD ((k+1)*sz+j) undef:=by
    simp only [List.getD,List.getElem?_drop]
    congr 2
    rw [Nat.add_mul];omega
   rw [e]
   exact this)
  have e:flatC (y::ys)=y.cells++flatC ys:=by simp [flatC]
  refine ⟨by rw [e,List.length_append,h0,l,List.length_cons,Nat.add_mul];omega,fun j h=>?_⟩
  rw [List.getElem_of_eq e]
  rw [e] at h
  by_cases hj:j<y.cells.length
  ·rw [List.getElem_append_left hj]
   have:=hr 0 (by simp) j hj
   simpa using this
  ·rw [List.getElem_append_right (by omega)]
   rw [List.length_append] at h
   have:=r (j-y.cells.length) (by omega)
   have e2:(news.drop sz).getD (j-y.cells.length) undef=news.getD j undef:=by
    simp only [List.getD,List.getElem?_drop]
    congr 2
    omega
   rw [e2] at this
   exact this
def srcC (S:St) (sz:Nat):AVal→Nat × List AVal
 |.sl _ _ xs _=>(xs.length,flatC xs)
 |.vrow i off k=>match S[i]? with
  |some (.row cs _)=>(k,(cs.drop off).take (k*sz))
  |_=>(0,[])
 |_=>(0,[])
def srcCOk (S:St) (sz:Nat):AVal→Prop
 |.sl sz' _ xs _=>sz'=sz∨xs=[]
 |.vrow i off k=>∃ cs t,S[i]? = some (ABox.row cs t)∧off+k*sz≤cs.length
 |_=>False
theorem src_okC {sz:Nat} {tx e':TypeId} (hE:Wf G E) {v:AVal} {x:Value} (hx:R E v x) (hok:srcCOk E.S sz v) (he:P.underlying tx=some (.slice e')) :
  ∃ news:List Value,Src P sz tx x (srcC E.S sz v).1 news E.w∧(srcC E.S sz v).2.length=(srcC E.S sz v).1*sz ∧
   ∀ j (h:j<(srcC E.S sz v).2.length),R E ((srcC E.S sz v).2[j]) (news.getD j undef):=by
 cases v<;>try (exact (id hok:False).elim)
 case sl sz' nl xs tg =>
  obtain ⟨news,h1,h2,h3⟩:=src_ok (P:=P) (sz:=sz) (tx:=tx) hE hx (show srcOk E.S sz (.sl sz' nl xs tg) from hok) (fun s h=>by cases h) (fun _=>⟨e',he⟩)
  obtain ⟨f1,f2⟩:=flat_rel (sz:=sz) (Q:=R E) xs news h2 h3
  exact ⟨news,h1,f1,f2⟩
 case vrow i off k =>
  obtain ⟨cs,t,hS,hfit⟩:=hok
  have e:srcC E.S sz (.vrow i off k)=(k,(cs.drop off).take (k*sz)):=by simp [srcC,hS]
  cases hx with
  |vrow _ _ _ b cap hnc hcm hm hb =>
   obtain ⟨b',arr,g1,g2,g3,g4⟩:=hE.entry i _ hS
   have:b'=b:=by rw [hm] at g1;injection g1 with g1;injection g1 with g1;exact g1.symm
   subst this
   rw [e]
   have hlen:((cs.drop off).take (k*sz)).length=k*sz:=by rw [List.length_take,List.length_drop];omega
   refine ⟨(List.range (k*sz)).map fun j=>arr.getD (off+j) undef,?_,hlen,fun j h=>?_⟩
   ·refine Src.ofSlice E.w he ⟨b',off,none⟩ k cap _ (by simp) (fun j u hu=>?_) (fun u hu=>?_)
    ·obtain ⟨hj,e⟩:=List.getElem?_eq_some_iff.1 hu
     simp only [List.length_map,List.length_range] at hj
     have hlt:off+j<arr.size:=by omega
     rw [add_form _ _ rfl]
     simp [World.cell?,g2,hlt,← e,Array.getD]
    ·obtain ⟨j,hj,rfl⟩:=List.mem_map.1 hu
     exact (g4 (off+j) (by simp at hj;omega)).2
   ·have h:j<((cs.drop off).take (k*sz)).length:=h
    rw [hlen] at h
    rw [toList_getD _ _ _ h]
    have:=(g4 (off+j) (by omega)).1
    simpa using this
theorem row_new (hE:Wf G E) {sz:Nat} {e:TypeId} {cs new:List AVal} {olds news:List Value} (zc:Array Value) (cap:Nat) {m:Nat} (hol:olds.length=cs.length) (hnl:news.length=new.length)
  (rx:∀ j (h:j<cs.length),R E cs[j] (olds.getD j undef)) (ry:∀ j (h:j<new.length),R E new[j] (news.getD j undef))
  (ox:∀ u∈olds,u.oneCell'=true) (oy:∀ u∈news,u.oneCell'=true) (hm:m*sz=cs.length+new.length) (hcap:m≤cap) (hmax:cap≤maxLen) (hzc:zc.size=(cap-m)*sz) :
  ∃ E',E'.w=E.w.drew.alloc (.cells ((olds++news).toArray++zc) e)∧Ext E E'∧Wf G E'∧E'.S=E.S++[.row (cs++new) e]∧R E' (.ms E.S.length sz m) (.slice (some ⟨E.w.heap.size,0,none⟩) m cap):=by
 have hg:E.w.grownBy (E.w.drew.alloc (.cells ((olds++news).toArray++zc) e)) none :=
  ⟨rfl,rfl,rfl,by simp,fun k hk _=>Go.RowKit.Below.heap_alloc E.w.drew _ k hk⟩
 have hnew:(E.w.drew.alloc (.cells ((olds++news).toArray++zc) e)).heap[E.w.heap.size]? = some (.cells ((olds++news).toArray++zc) e (0,0)):=heap_alloc_new E.w.drew _
 have hsize:((olds++news).toArray++zc).size=cap*sz:=by
  simp only [Array.size_append,List.size_toArray,List.length_append,hol,hnl,hzc]
  rw [← hm,← Nat.add_mul];congr 1;omega
 have hmu:(E.mu++[some E.w.heap.size])[E.S.length]? = some (some E.w.heap.size):=by rw [← hE.len];simp
 obtain ⟨k1,k2⟩:=env_push hE hg E.w.heap.size (Nat.le_refl _) (by simp) (.row (cs++new) e) fun hext=>by
  refine ⟨E.w.heap.size,_,hmu,hnew,by simp [hol,hnl],fun j hj=>?_⟩
  rw [List.length_append] at hj
  rw [pair_getD _ _ _ _ (by omega)]
  by_cases h:j<cs.length
  ·rw [if_pos (by omega),List.getElem_append_left h]
   exact ⟨(rx j h).ext hE hext,ox _ (by simp [List.getD,show j<olds.length by omega])⟩
  ·rw [if_neg (by omega),List.getElem_append_right (by omega),hol]
   exact ⟨(ry (j-cs.length) (by omega)).ext hE hext,oy _ (by simp [List.getD,show j-cs.length<news.length by omega])⟩
 exact ⟨_,rfl,k1,k2,rfl,.ms _ _ _ _ _ hcap hmax hmu ⟨_,by simp;rfl,rfl⟩ fun _ _ _=>⟨_,_,_,hnew,by rw [hsize];exact Nat.le_refl _⟩⟩
theorem append_none {t tx ty e e':TypeId} {i:TI} (hE:Wf G E) (hu:P.underlying t=some (.slice e)) (hi:i.ok P e) {a:AVal} {x y:Value} {v:AVal}
  (hx:R E a x) (ha:(∃ b sz n,a = .ms b sz n)∨∃ sz tg,a = .sl sz true [] tg) (hy:R E v y) (hok:srcCOk E.S i.size v) (he:P.underlying tx=some (.slice e')) (h0:(srcC E.S i.size v).1=0) :
  ROk G E E.S a ((Builtin.append_ #[t,tx] ty #[x,y]).run P E.w):=by
 obtain ⟨news,hsrc,hl,_⟩:=src_okC hE hy hok he
 obtain ⟨inf,z,hinf,hz,hzl,hzs,_,_⟩:=ofCells_zero hi
 obtain ⟨_,inf',_,hinf',hs,hb',_,_,_,_,_,_⟩:=hi
 have:inf'=inf:=by rw [hinf] at hinf';injection hinf' with h;exact h.symm
 subst this
 have hn0:news=[]:=List.eq_nil_of_length_eq_zero (by rw [hsrc.newsLen,h0];simp)
 subst hn0
 rw [h0] at hsrc
 have hsl:∃ a n c,x = .slice a n c∧n≤c:=by
  rcases ha with ⟨b,sz,n,rfl⟩|⟨sz,tg,rfl⟩
  ·cases hx with
   |ms _ _ _ b c hnc=>exact ⟨_,_,_,rfl,hnc⟩
  ·cases hx with
   |slnil=>exact ⟨_,_,_,rfl,Nat.le_refl _⟩
 obtain ⟨q,n,c,rfl,hle⟩:=hsl
 have hrun:=run_append_nothing (P:=P) E.w t tx ty e inf' hu hinf q n c hle y (by rw [hs];exact hsrc)
 exact .pure hE hrun hx
theorem append_nilR {t tx ty e e':TypeId} {i:TI} (hE:Wf G E) (hu:P.underlying t=some (.slice e)) (hi:i.ok P e) {sz:Nat} {tg:Tag} {x y:Value} {v:AVal}
  (hx:R E (.sl sz true [] tg) x) (hy:R E v y) (hok:srcCOk E.S i.size v) (he:P.underlying tx=some (.slice e')) (hpos:0<(srcC E.S i.size v).1)
  (h63:(srcC E.S i.size v).1≤maxLen) (hby:(srcC E.S i.size v).1*i.bytes≤140737488355328) :
  ROk G E (E.S++[.row (srcC E.S i.size v).2 e]) (.ms E.S.length i.size (srcC E.S i.size v).1) ((Builtin.append_ #[t,tx] ty #[x,y]).run P E.w):=by
 obtain ⟨news,hsrc,hl,ry⟩:=src_okC hE hy hok he
 obtain ⟨inf,z,hinf,hz,hzl,hzs,_,_⟩:=ofCells_zero hi
 obtain ⟨_,inf',_,hinf',hs,hb',_,_,_,_,_,_⟩:=hi
 have:inf'=inf:=by rw [hinf] at hinf';injection hinf' with h;exact h.symm
 subst this
 generalize hk:(srcC E.S i.size v).1=k at *
 generalize hnw:(srcC E.S i.size v).2=new at *
 have h63i:((0+k:Nat):Int)≤9223372036854775807:=by simp only [maxLen] at h63;omega
 have hsrc':Src P inf'.size tx y k news E.w:=by rw [hs];exact hsrc
 cases hx with
 |slnil _ _ ht =>
  have hrun:=run_append_grow_src (P:=P) E.w t tx ty e inf' z hu hinf hz none 0 0 [] (run_firstCells_none E.w.drew _ _ _ _) y k news hsrc' (by simpa using hpos) h63i (by rw [hb'];exact growslice_fits (by simpa using hpos) (by simpa using hby))
  have hge:=grownCap_ge E.w (0+k) 0 e
  have hcm:grownCap E.w (0+k) 0 e≤maxLen:=grownCap_le_maxLen E.w (0+k) 0 e (by simpa using h63)
  obtain ⟨E',hw,k1,k2,k3,k4⟩:=row_new (cs:=[]) (new:=new) (olds:=[]) (news:=news) (sz:=i.size) (e:=e) (m:=0+k) hE (Builtin.zeroCells z.cells (grownCap E.w (0+k) 0 e-(0+k))) (grownCap E.w (0+k) 0 e) rfl (by rw [hsrc.newsLen,hl])
   (fun j h=>by simp at h) ry (fun u hu=>by cases hu) hsrc.one (by rw [hl];simp) hge hcm (by rw [size_zeroCells,hzl,hzs])
  refine ⟨E',_,by rw [hrun,hw],k1,k2,by simpa using k3,by simpa using k4⟩
theorem append_fullR {t tx ty e e':TypeId} {i:TI} (hE:Wf G E) (hu:P.underlying t=some (.slice e)) (hi:i.ok P e) {sz:Nat} {x y:Value} {v:AVal}
  (hx:R E (.sl sz false [] .full) x) (hy:R E v y) (hok:srcCOk E.S i.size v) (he:P.underlying tx=some (.slice e')) (hpos:0<(srcC E.S i.size v).1)
  (h63:(srcC E.S i.size v).1≤maxLen) (hby:(srcC E.S i.size v).1*i.bytes≤140737488355328) :
  ROk G E (E.S++[.row (srcC E.S i.size v).2 e]) (.ms E.S.length i.size (srcC E.S i.size v).1) ((Builtin.append_ #[t,tx] ty #[x,y]).run P E.w):=by
 obtain ⟨news,hsrc,hl,ry⟩:=src_okC hE hy hok he
 obtain ⟨inf,z,hinf,hz,hzl,hzs,_,_⟩:=ofCells_zero hi
 obtain ⟨_,inf',_,hinf',hs,hb',_,_,_,_,_,_⟩:=hi
 have:inf'=inf:=by rw [hinf] at hinf';injection hinf' with h;exact h.symm
 subst this
 generalize hk:(srcC E.S i.size v).1=k at *
 generalize hnw:(srcC E.S i.size v).2=new at *
 have h63i:((0+k:Nat):Int)≤9223372036854775807:=by simp only [maxLen] at h63;omega
 have hsrc':Src P inf'.size tx y k news E.w:=by rw [hs];exact hsrc
 cases hx with
 |sl _ _ _ ad n c fv hn hcc hcm hf hcs hr ht =>
  have hn:n=0:=hn
  have hc0:c=0:=(show c=n from ht).trans hn
  subst hn hc0
  have hrun:=run_append_grow_src (P:=P) E.w t tx ty e inf' z hu hinf hz (some ad) 0 0 [] (run_firstCells_some E.w.drew _ _ _ _ 0 [] (by simp) fun j u hu=>by cases hu) y k news hsrc' (by simpa using hpos) h63i (by rw [hb'];exact growslice_fits (by simpa using hpos) (by simpa using hby))
  have hge:=grownCap_ge E.w (0+k) 0 e
  have hcm:grownCap E.w (0+k) 0 e≤maxLen:=grownCap_le_maxLen E.w (0+k) 0 e (by simpa using h63)
  obtain ⟨E',hw,k1,k2,k3,k4⟩:=row_new (cs:=[]) (new:=new) (olds:=[]) (news:=news) (sz:=i.size) (e:=e) (m:=0+k) hE (Builtin.zeroCells z.cells (grownCap E.w (0+k) 0 e-(0+k))) (grownCap E.w (0+k) 0 e) rfl (by rw [hsrc.newsLen,hl])
   (fun j h=>by simp at h) ry (fun u hu=>by cases hu) hsrc.one (by rw [hl];simp) hge hcm (by rw [size_zeroCells,hzl,hzs])
  refine ⟨E',_,by rw [hrun,hw],k1,k2,by simpa using k3,by simpa using k4⟩
theorem append_ms {t tx ty e e':TypeId} {i:TI} (hE:Wf G E) (hu:P.underlying t=some (.slice e)) (hi:i.ok P e) {b0 n:Nat} {cs:List AVal} {x y:Value} {v:AVal}
  (hx:R E (.ms b0 i.size n) x) (hS:E.S[b0]? = some (.row cs e)) (hn:n*i.size=cs.length) (hy:R E v y) (hok:srcCOk E.S i.size v) (he:P.underlying tx=some (.slice e')) (hpos:0<(srcC E.S i.size v).1)
  (h63:n+(srcC E.S i.size v).1≤maxLen) (hby:(n+(srcC E.S i.size v).1)*i.bytes≤140737488355328) :
  ROk G E (E.S.set b0 .dead++[.row (cs++(srcC E.S i.size v).2) e]) (.ms E.S.length i.size (n+(srcC E.S i.size v).1)) ((Builtin.append_ #[t,tx] ty #[x,y]).run P E.w):=by
 obtain ⟨news,hsrc,hl,ry⟩:=src_okC hE hy hok he
 obtain ⟨inf,z,hinf,hz,hzl,hzs,_,_⟩:=ofCells_zero hi
 obtain ⟨_,inf',_,hinf',hs,hb',_,_,_,_,_,_⟩:=hi
 have:inf'=inf:=by rw [hinf] at hinf';injection hinf' with h;exact h.symm
 subst this
 generalize hk:(srcC E.S i.size v).1=k at *
 generalize hnw:(srcC E.S i.size v).2=new at *
 have hnl:news.length=new.length:=by rw [hsrc.newsLen,hl]
 have h63i:((n+k:Nat):Int)≤9223372036854775807:=by simp only [maxLen] at h63;omega
 have hsrc':Src P inf'.size tx y k news E.w:=by rw [hs];exact hsrc
 have hlt:b0<E.S.length:=(List.getElem?_eq_some_iff.1 hS).1
 cases hx with
 |ms _ _ _ b c hnc hcm hm hb hcp =>
  obtain ⟨b',arr,g1,g2,g3,g4⟩:=hE.entry b0 _ hS
  have:b'=b:=by rw [hm] at g1;injection g1 with g1;injection g1 with g1;exact g1.symm
  subst this
  obtain ⟨arr2,q2,m2,g5,g6⟩:=hcp cs e hS
  have:arr2=arr:=by rw [g2] at g5;injection g5 with g5;injection g5 with g5;exact g5.symm
  subst this
  rcases Nat.lt_or_ge c (n+k) with hg|hroom
  ·
   have hfc:(Builtin.firstCells inf'.size n (.slice (some ⟨b',0,none⟩) n c)).run P E.w.drew = .ok ((List.range (n*i.size)).map fun j=>arr2.getD j undef).toArray E.w.drew:=by
    rw [hs]
    refine run_firstCells_some E.w.drew _ _ _ _ c _ (by simp) fun j u hu=>?_
    obtain ⟨hj,e2⟩:=List.getElem?_eq_some_iff.1 hu
    simp only [List.length_map,List.length_range] at hj
    have hlt2:j<arr2.size:=by omega
    have hc:E.w.cell? ((⟨b',0,none⟩ : Addr).add j)=some u:=by
     rw [add_form _ _ rfl]
     simp [World.cell?,g2,hlt2,← e2,Array.getD]
    simpa using hc
   have hrun:=run_append_grow_src (P:=P) E.w t tx ty e inf' z hu hinf hz (some ⟨b',0,none⟩) n c _ hfc y k news hsrc' hg h63i (by rw [hb'];exact growslice_fits hg hby)
   have hge:=grownCap_ge E.w (n+k) c e
   have hcm2:grownCap E.w (n+k) c e≤maxLen:=grownCap_le_maxLen E.w (n+k) c e h63
   obtain ⟨E',hw,k1,k2,k3,k4⟩:=row_new (cs:=cs) (new:=new) (olds:=(List.range (n*i.size)).map fun j=>arr2.getD j undef) (news:=news) (sz:=i.size) (e:=e) (m:=n+k) hE (Builtin.zeroCells z.cells (grownCap E.w (n+k) c e-(n+k))) (grownCap E.w (n+k) c e)
    (by simp [hn]) hnl (fun j h=>by rw [toList_getD _ _ _ (by omega)];exact (g4 j h).1) ry (fun u hu=>by
     obtain ⟨j,hj,rfl⟩:=List.mem_map.1 hu
     exact (g4 j (by simp at hj;omega)).2) hsrc.one (by rw [hl,Nat.add_mul,hn]) hge hcm2 (by rw [size_zeroCells,hzl,hzs])
   obtain ⟨x1,x2⟩:=env_kill k2 (i:=b0) (cs:=cs) (t:=e) (by rw [k3,List.getElem?_append_left hlt];exact hS)
   refine ⟨{ E' with S:=E'.S.set b0 .dead },_,by rw [hrun,← hw],k1.trans hE x1,x2,?_,k4.ext k2 x1⟩
   show E'.S.set b0 .dead=_
   rw [k3,List.set_append_left _ _ hlt]
  ·
   have hfit:n*i.size+0+news.length≤arr2.size:=by
    have:(n+k)*i.size≤c*i.size:=Nat.mul_le_mul_right _ hroom
    rw [hsrc.newsLen,Nat.add_zero,← Nat.add_mul];omega
   obtain ⟨w',s1,s2,s3,s4⟩:=run_storeCells_put (P:=P) b' e news (n*i.size) 0 arr2 E.w g2 hfit hsrc.one
   have hrun:(Builtin.append_ #[t,tx] ty #[.slice (some ⟨b',0,none⟩) n c,y]).run P E.w = .ok (.slice (some ⟨b',0,none⟩) (n+k) c) w':=by
    rcases hsrc'.kind with ⟨e',hk⟩|hk <;>
     simp [Builtin.append_,run_underlying hu,run_underlying hk,sizeOf,typeInfo,hinf,hsrc'.len,hroom,hsrc.cells,hs,add_form ⟨b',0,none⟩ _ rfl,s1]
   have s2':w'.heap[b']? = some (.cells (putArr arr2 (n*i.size) news) e (0,0)):=by simpa using s2
   have hput:∀ p,(putArr arr2 (n*i.size) news).getD p undef=if n*i.size≤p∧p<n*i.size+news.length then news.getD (p-n*i.size) undef else arr2.getD p undef :=
    fun p=>putArr_getD news arr2 _ p (by simpa using hfit)
   have hmu:(E.mu++[some b'])[E.S.length]? = some (some b'):=by rw [← hE.len];simp
   obtain ⟨x1,x2⟩:=env_take (cs':=cs++new) (t':=e) hE hS hm s3 (fun a q m hq=>by
     rw [g2] at hq
     injection hq with hq
     injection hq with q1 q2 q3
     subst q1
     exact ⟨_,_,_,s2',putArr_size _ _ _⟩) fun hext=>by
    refine ⟨b',_,hmu,s2',by rw [putArr_size,List.length_append,← hn,← hnl];omega,fun j hj=>?_⟩
    rw [List.length_append] at hj
    rw [hput j]
    by_cases h:j<cs.length
    ·rw [if_neg (by omega),List.getElem_append_left h]
     exact ⟨(g4 j h).1.ext hE hext,(g4 j h).2⟩
    ·rw [if_pos (by omega),List.getElem_append_right (by omega),hn]
     exact ⟨(ry (j-cs.length) (by omega)).ext hE hext,hsrc.one _ (by simp [List.getD,show j-cs.length<news.length by omega])⟩
   refine ⟨_,_,hrun,x1,x2,rfl,?_⟩
   refine .ms _ _ _ _ _ hroom hcm hmu ⟨.row (cs++new) e,?_,rfl⟩ fun _ _ _=>⟨_,_,_,s2',by rw [putArr_size];exact g6⟩
   show (E.S.set b0 .dead++[ABox.row (cs++new) e])[E.S.length]? = _
   rw [List.getElem?_append_right (by simp)];simp
end
end Go.Am
end
section
namespace Go.Am
open Go
noncomputable section
open Classical
inductive SK:AVal→AVal→Prop
 |int (k:IntKind) (a b:Int):SK (.int k a) (.int k b)
 |bool (a b:Bool):SK (.bool a) (.bool b)
 |str (a b:List UInt8):SK (.str a) (.str b)
def intBin (op:BinOp) (k:IntKind) (a b:Int):Option (Prop × AVal) :=
 match op with
 |.add=>some (True,.int k (k.wrap (a+b)))
 |.sub=>some (True,.int k (k.wrap (a-b)))
 |.mul=>some (True,.int k (k.wrap (a*b)))
 |.quo=>some (b≠0,.int k (k.wrap (a.tdiv b)))
 |.rem=>some (b≠0,.int k (a.tmod b))
 |.and=>some (True,.int k (bits .and k a b))
 |.or=>some (True,.int k (bits .or k a b))
 |.xor=>some (True,.int k (bits .xor k a b))
 |.andNot=>some (True,.int k (bits .andNot k a b))
 |.eql=>some (True,.bool (a==b))
 |.neq=>some (True,.bool (a != b))
 |.lss=>some (True,.bool (decide (a<b)))
 |.leq=>some (True,.bool (decide (a≤b)))
 |.gtr=>some (True,.bool (decide (a>b)))
 |.geq=>some (True,.bool (decide (a ≥ b)))
 |_=>none
def strBin (op:BinOp) (a b:List UInt8):Option (Prop × AVal) :=
 match op with
 |.add=>some (a.length+b.length≤maxLen,.str (a++b))
 |.eql=>some (True,.bool (a==b))
 |.neq=>some (True,.bool (!(a==b)))
 |.lss=>some (True,.bool (Op.bytesLess a b))
 |.leq=>some (True,.bool (Op.bytesLess a b||a==b))
 |.gtr=>some (True,.bool (!(Op.bytesLess a b||a==b)))
 |.geq=>some (True,.bool (!(Op.bytesLess a b)))
 |_=>none
section
variable {P:Program} {G:Nat→Option AVal} {E:Env}
theorem run_binOp_int {op:BinOp} {k:IntKind} {a b:Int} {sd:Prop} {r:AVal} (h:intBin op k a b=some (sd,r)) (hsd:sd) (t:TypeId) (w:World) :
  ∃ x,(binOp op t (.int k a) (.int k b)).run P w = .ok x w∧∀ E,R E r x:=by
 cases op<;>simp only [intBin,Option.some.injEq,Prod.mk.injEq,reduceCtorEq] at h
 case quo =>
  obtain ⟨rfl,rfl⟩:=h
  refine ⟨.int k (k.wrap (a.tdiv b)),?_,fun E=>.int _ _⟩
  simp only [binOp,Op.intDiv,ne_eq,not_true_eq_false,if_false]
  rw [if_neg hsd];rfl
 case rem =>
  obtain ⟨rfl,rfl⟩:=h
  refine ⟨.int k (a.tmod b),?_,fun E=>.int _ _⟩
  simp only [binOp,Op.intDiv,ne_eq,not_true_eq_false,if_false]
  rw [if_neg hsd];rfl
 all_goals
  obtain ⟨rfl,rfl⟩:=h
  first
   |(refine ⟨_,?_,fun E=>.int _ _⟩
     simp only [binOp,Op.intArith,ne_eq,not_true_eq_false,if_false,Sem.run_pure]
     done)
   |(refine ⟨_,?_,fun E=>.bool _⟩
     simp only [binOp,Op.intCmp,ne_eq,not_true_eq_false,if_false,Sem.run_pure]
     done)
   |(refine ⟨_,?_,fun E=>.int _ _⟩
     simp only [binOp,Op.intBits,ne_eq,not_true_eq_false,if_false,Sem.run_pure]
     rfl)
theorem run_binOp_str {op:BinOp} {a b:List UInt8} {x y:Value} {sd:Prop} {r:AVal} (h:strBin op a b=some (sd,r)) (hsd:sd) (hx:R E (.str a) x) (hy:R E (.str b) y) (t:TypeId) :
  ∃ z,(binOp op t x y).run P E.w = .ok z E.w∧R E r z:=by
 cases hx with
 |str s _ h1 =>
  cases hy with
  |str u _ h2 =>
   have hs:∀ b:ByteArray,b.toList=b.data.toList:=fun b=>ByteArray.toList_eq b
   cases op<;>simp only [strBin,Option.some.injEq,Prod.mk.injEq,reduceCtorEq] at h
   case add =>
    obtain ⟨rfl,rfl⟩:=h
    have:¬ (((s.size+u.size:Nat):Int)>IntKind.i64.max):=by
     have e1:s.size=a.length:=by rw [← h1];rfl
     have e2:u.size=b.length:=by rw [← h2];rfl
     have e3:IntKind.i64.max=9223372036854775807:=rfl
     simp only [maxLen] at hsd
     omega
    refine ⟨.string (s++u),?_,.str _ _ (by simp [h1,h2])⟩
    simp only [binOp,Op.stringOp,this,if_false]
    rfl
   all_goals
    obtain ⟨rfl,rfl⟩:=h
    refine ⟨_,?_,.bool _⟩
    simp only [binOp,Op.stringOp,hs,h1,h2,Sem.run_pure]
end
end
end Go.Am
end
