/- The abstract layer: functions that hand out a map of their own, its entries closures and their like: what they have captured is not written any more. -/
import Derived.Test.YtodiaabcaahnjaaGreatDoorAmFreshZ
set_option linter.unusedVariables false
set_option linter.unusedSimpArgs false
namespace Go.Am
open Go
noncomputable section
mutual
def lkM (T:St):AVal→AVal
 |.ptr j off=>match T[j]? with
  |some (.cells cs _)=>.cptr (cs.drop off)
  |_=>.ptr j off
 |.agg cs=>.agg (lkMs T cs)
 |.tup cs=>.tup (lkMs T cs)
 |.fn f az bs=>.fn f (lkMs T az) (lkMs T bs)
 |v=>v
def lkMs (T:St):List AVal→List AVal
 |[]=>[]
 |v::vs=>lkM T v::lkMs T vs
end
mutual
def okM (T:St):AVal→Bool
 |.ptr j _=>match T[j]? with
  |some (.cells cs _)=>bels 0 cs
  |_=>false
 |.agg cs=>okMs T cs
 |.tup cs=>okMs T cs
 |.fn _ az bs=>okMs T az&&okMs T bs
 |v=>bel 0 v
def okMs (T:St):List AVal→Bool
 |[]=>true
 |v::vs=>okM T v&&okMs T vs
end
theorem lkMs_length (T:St):∀ vs,(lkMs T vs).length=vs.length
 |[]=>rfl
 |v::vs=>by simp [lkMs,lkMs_length T vs]
theorem lkMs_get (T:St):∀ (vs:List AVal) (j:Nat) (h:j<(lkMs T vs).length) (h':j<vs.length),(lkMs T vs)[j]=lkM T vs[j]
 |v::vs,0,_,_=>by simp [lkMs]
 |v::vs,j+1,h,h'=>by simp only [lkMs,List.getElem_cons_succ];exact lkMs_get T vs j _ _
theorem okMs_get (T:St):∀ (vs:List AVal),okMs T vs=true→∀ (j:Nat) (h:j<vs.length),okM T vs[j]=true
 |v::vs,h,0,_=>by simp only [okMs,Bool.and_eq_true] at h;exact h.1
 |v::vs,h,j+1,hj=>by simp only [okMs,Bool.and_eq_true] at h;exact okMs_get T vs h.2 j (by simpa using hj)
theorem lkM_ok {G:Nat→Option AVal} {E E':Env} (hE:Wf G E) (hw:E'.w=E.w) (hs:Sees E E') (hb:∀ (i b o:Nat) (cs:List AVal) (t:TypeId),E.S[i]? = some (ABox.cells cs t)→E.mu[i]? = some (some b)→E'.Im b o) {v:AVal} {x:Value} (h:R E v x):okM E.S v=true→R E' (lkM E.S v) x:=by
 induction h with
 |agg cs az h1 hx ih =>
  intro hk
  simp only [okM] at hk
  simp only [lkM]
  exact .agg _ az (by rw [lkMs_length];exact h1) fun j hj=>by
   rw [lkMs_length] at hj
   rw [lkMs_get _ _ _ _ hj]
   exact ih j hj (okMs_get _ _ hk j hj)
 |tup cs az h1 hx ih =>
  intro hk
  simp only [okM] at hk
  simp only [lkM]
  exact .tup _ az (by rw [lkMs_length];exact h1) fun j hj=>by
   rw [lkMs_length] at hj
   rw [lkMs_get _ _ _ _ hj]
   exact ih j hj (okMs_get _ _ hk j hj)
 |fn f xs ys az bs h1 h2 hx hy ihx ihy =>
  intro hk
  simp only [okM,Bool.and_eq_true] at hk
  simp only [lkM]
  exact .fn f _ _ az bs (by rw [lkMs_length];exact h1) (by rw [lkMs_length];exact h2)
   (fun j hj=>by rw [lkMs_length] at hj;rw [lkMs_get _ _ _ _ hj];exact ihx j hj (okMs_get _ _ hk.1 j hj))
   (fun j hj=>by rw [lkMs_length] at hj;rw [lkMs_get _ _ _ _ hj];exact ihy j hj (okMs_get _ _ hk.2 j hj))
 |ptr i off b hm hbx =>
  intro hk
  simp only [okM] at hk
  simp only [lkM]
  split at hk
  ·next cs t hS =>
   obtain ⟨b',arr,h1,h2,h3,h4⟩:=hE.entry i _ hS
   obtain rfl:b'=b:=by rw [hm] at h1;injection h1 with h1;injection h1 with h1;exact h1.symm
   refine .cptr _ _ (fun j=>arr.getD (off+j) undef) (fun j hj=>?_) (fun j hj=>?_)
   ·rw [List.length_drop] at hj
    refine ⟨rfl,?_,hb i b' _ cs t hS hm,(h4 (off+j) (by omega)).2⟩
    rw [add_form _ _ rfl,hw]
    have:off+j<arr.size:=by omega
    simp [World.cell?,h2,Array.getD,this]
   ·rw [List.length_drop] at hj
    simp only [List.getElem_drop]
    exact (clo_ok _ (bels_iff.1 hk _ (List.getElem_mem _))).move hs (h4 (off+j) (by omega)).1
  ·cases hk
 |any x=>intro _;exact .any x
 |raw x=>intro _;exact .raw x
 |int k n=>intro _;exact .int k n
 |bool b=>intro _;exact .bool b
 |str s l h=>intro _;exact .str s l h
 |nilp=>intro _;exact .nilp
 |nilmap=>intro _;exact .nilmap
 |nilfn=>intro _;exact .nilfn
 |nilifc=>intro _;exact .nilifc
 |cptr cs ad f hf hr _=>intro hk;exact (clo_ok _ hk).move hs (.cptr cs ad f hf hr)
 |slnil sz tg ht=>intro hk;exact (clo_ok _ hk).move hs (.slnil sz tg ht)
 |sl sz xs tg ad n c f hn hc hm hf hsz hr ht _=>intro hk;exact (clo_ok _ hk).move hs (.sl sz xs tg ad n c f hn hc hm hf hsz hr ht)
 |ifc t v x hx _=>intro hk;exact (clo_ok _ hk).move hs (.ifc t v x hx)
 |view=>intro hk;simp [okM,bel,Nat.blt] at hk
 |map=>intro hk;simp [okM,bel,Nat.blt] at hk
 |yld=>intro hk;simp [okM,bel,Nat.blt] at hk
 |room=>intro hk;simp [okM,bel,Nat.blt] at hk
 |vrow=>intro hk;simp [okM,bel,Nat.blt] at hk
def okE (T:St):List (AVal × AVal × Nat)→Bool
 |[]=>true
 |(k,v,_)::r=>bel 0 k&&okM T v&&okE T r
theorem okE_mem {T:St}:∀ {es:List (AVal × AVal × Nat)},okE T es=true→∀ e∈es,bel 0 e.1=true∧okM T e.2.1=true
 |(k,v,q)::r,h,e,he=>by
  simp only [okE,Bool.and_eq_true] at h
  rcases List.mem_cons.1 he with rfl|he
  ·exact h.1
  ·exact okE_mem h.2 e he
def lkE (T:St) (es:List (AVal × AVal × Nat)):List (AVal × AVal × Nat):=es.map fun e=>(e.1,lkM T e.2.1,e.2.2)
theorem ACall.freshM {C:Cx} (hG:GClosed C) {f:FuncId} {args:List AVal} {i:Nat} {T:St} {es:List (AVal × AVal × Nat)} {c:Nat} (h:ACall C f args [] (.map i) T) (hT:T[i]? = some (.mp es c)) (hp:okE T es=true) (ha:bels 0 args=true) (S:St) :
  ACall C f args S (.map S.length) (S++[.mp (lkE T es) c]):=by
 refine ⟨h.callable,fun E vs hE hES hvs hrel=>?_⟩
 subst hES
 have hsee:Sees E (env0 E.w E.Im):=⟨fun b o hi=>⟨⟨hi.1,.inl ⟨hi.1,hi⟩⟩,rfl⟩⟩
 have hE0:Wf C.G (env0 E.w E.Im) :=
  ⟨rfl,fun i j b h=>by simp [env0] at h,fun i b h=>by simp [env0] at h,Nat.le_refl _,fun b o _ _ i=>by simp [env0],fun i x h=>by simp [env0] at h,
   fun g v hg=>⟨(hG g v hg).move hsee (hE.glob g v hg).r,fun i=>by simp [env0],(hE.glob g v hg).obj⟩⟩
 refine (h.ok (env0 E.w E.Im) vs hE0 (by simp [env0]) hvs fun j hj=>(clo_ok _ (bels_iff.1 ha _ (List.getElem_mem hj))).move hsee (hrel j hj)).mono ?_
 rintro _ _ ⟨E',v,h1,h2,h3,h4,h5,h6⟩
 subst h1 h2
 have hS':E'.S[i]? = some (.mp es c):=by rw [h5];exact hT
 obtain ⟨b,ms,m1,m2,m3,m4⟩:=h3.entry i _ hS'
 have hfree:∀ q,q<E.w.heap.size→E'.free q∧E'.w.heap[q]? = E.w.heap[q]?:=fun q hq=>(h4.free q hq (fun j hj=>by simp [env0] at hj)).imp_right fun k=>k.old hq
 have hbge:E.w.heap.size≤b:=by
  rcases Nat.lt_or_ge b E.w.heap.size with hlt|hge
  ·exact absurd m1 ((hfree b hlt).1 i)
  ·exact hge
 have hblt:=h3.lt i b m1
 have hmu:∀ j:Nat,j<E.S.length→(E.mu++[some b])[j]? = E.mu[j]?:=fun j hj=>List.getElem?_append_left (by rw [hE.len];exact hj)
 have hSS:∀ j:Nat,j<E.S.length→(E.S++[ABox.mp (lkE T es) c])[j]? = E.S[j]?:=fun j hj=>List.getElem?_append_left hj
 have lt_of:∀ (j:Nat) (y:ABox),E.S[j]? = some y→j<E.S.length:=fun j y h=>by
  rcases Nat.lt_or_ge j E.S.length with hlt|hge
  ·exact hlt
  ·rw [List.getElem?_eq_none hge] at h;cases h
 have hmem:∀ (j q:Nat),(E.mu++[some b])[j]? = some (some q)→(j<E.S.length∧E.mu[j]? = some (some q))∨(j=E.S.length∧q=b):=by
  intro j q h
  rw [List.getElem?_append] at h
  split at h
  ·exact .inl ⟨by rw [← hE.len];assumption,h⟩
  ·rcases hi:j-E.mu.length with _|k
   ·rw [hi] at h
    refine .inr ⟨by rw [← hE.len];omega,?_⟩
    simp at h;exact h.symm
   ·rw [hi] at h;simp at h
 have hsz:E.w.heap.size≤E'.w.heap.size:=h4.size
 have hfr:∀ q,q<E.w.heap.size→E.free q→∀ j:Nat,(E.mu++[some b])[j]? ≠ some (some q):=by
  intro q hq hf j hj
  rcases hmem j q hj with ⟨_,k2⟩|⟨_,k2⟩
  ·exact hf j k2
  ·omega
 have hxt:Ext E { E' with mu:=E.mu++[some b],S:=E.S++[.mp (lkE T es) c],base:=E.base,im0:=E.im0,act:=E.act }:=by
  refine ⟨rfl,rfl,rfl,hsz,h4.os,h4.tape,h4.output,by simp,fun q hq hf=>⟨hfr q hq hf,.inl (hfree q hq).2⟩,fun j y h hy=>⟨hmu j (lt_of j y h),y,(hSS j (lt_of j y h)).trans h,hy⟩,
   fun j n sz t h=>⟨n,(hSS j (lt_of j _ h)).trans h,Nat.le_refl _,fun _=>⟨hmu j (lt_of j _ h),fun q hq=>(hfree q (hE.lt j q hq)).2⟩,
    fun q hq=>⟨fun o _=>cell_same (hfree q (hE.lt j q hq)).2 _ _,.inl ((hmu j (lt_of j _ h)).trans hq)⟩⟩,fun j q o h hq=>⟨(hSS j (lt_of j _ h)).trans h,(hfree q (hE.lt j q hq)).2⟩⟩
 have hmb:(E.mu++[some b])[E.S.length]? = some (some b):=by rw [← hE.len];simp
 refine ⟨{ E' with mu:=E.mu++[some b],S:=E.S++[.mp (lkE T es) c],base:=E.base,im0:=E.im0,act:=E.act },v,rfl,rfl,⟨by simp [hE.len],fun j j' q k1 k2=>?_,fun j q k=>?_,Nat.le_trans hE.base hsz,fun q o k1 k2=>?_,fun j y k=>?_,fun g u k=>(hE.glob g u k).ext hE hxt⟩,hxt,rfl,?_⟩
 ·rcases hmem j q k1 with ⟨_,m1⟩|⟨e1,c1⟩<;>rcases hmem j' q k2 with ⟨_,m2⟩|⟨e2,c2⟩
  ·exact hE.inj j j' q m1 m2
  ·have:=hE.lt j q m1;omega
  ·have:=hE.lt j' q m2;omega
  ·omega
 ·rcases hmem j q k with ⟨_,m1⟩|⟨_,c1⟩
  ·exact Nat.lt_of_lt_of_le (hE.lt j q m1) hsz
  ·rw [c1];exact hblt
 ·have k1:q<E.base:=k1
  have k2:E.im0 q o:=k2
  exact hfr q (Nat.lt_of_lt_of_le k1 hE.base) (hE.im q o k1 k2)
 ·have k':(E.S++[ABox.mp (lkE T es) c])[j]? = some y:=k
  rw [List.getElem?_append] at k'
  split at k'
  ·next hl=>exact (hE.entry j y k').keep hE hxt (hmu j hl) fun q hq=>(hfree q (hE.lt j q hq)).2
  ·next hl =>
   rcases hi:j-E.S.length with _|k
   ·rw [hi] at k'
    simp at k'
    subst k'
    have:j=E.S.length:=by omega
    subst this
    subst h5
    have hbase:E'.base=E.w.heap.size:=h4.base
    have him0:E'.im0=E.Im:=h4.im0
    have hnew:∀ q o,E.w.heap.size≤q→q<E'.w.heap.size→q≠b→({ E' with mu:=E.mu++[some b],S:=E.S++[.mp (lkE E'.S es) c],base:=E.base,im0:=E.im0,act:=E.act }:Env).Im q o:=fun q o hq1 hq2 hq3 =>
     ⟨hq2,.inr (.inl ⟨Nat.le_trans hE.base hq1,fun j hj=>by
      rcases hmem j q hj with ⟨_,k2⟩|⟨_,k2⟩
      ·have:=hE.lt j q k2;omega
      ·exact hq3 k2⟩)⟩
    have him:∀ q o,E'.Im q o→({ E' with mu:=E.mu++[some b],S:=E.S++[.mp (lkE E'.S es) c],base:=E.base,im0:=E.im0,act:=E.act }:Env).Im q o:=by
     rintro q o ⟨q1,q2⟩
     rcases q2 with ⟨k1,k2⟩|⟨k1,k2⟩|⟨k1,r,n,sz,t,k2,k3,_⟩
     ·rw [him0] at k2
      exact (Env.Im.ext hxt k2 hE.im).1
     ·exact hnew q o (by rw [hbase] at k1;exact k1) q1 (fun e=>k2 i (by rw [e];exact m1))
     ·refine hnew q o (by rw [hbase] at k1;exact k1) q1 (fun e=>?_)
      have:r=i:=h3.inj r i b (by rw [← e];exact k2) m1
      rw [this,hS'] at k3
      cases k3
    have hsee2:Sees E' { E' with mu:=E.mu++[some b],S:=E.S++[.mp (lkE E'.S es) c],base:=E.base,im0:=E.im0,act:=E.act }:=⟨fun q o hq=>⟨him q o hq,rfl⟩⟩
    have hbx:∀ (r q o:Nat) (cs:List AVal) (t:TypeId),E'.S[r]? = some (ABox.cells cs t)→E'.mu[r]? = some (some q)→({ E' with mu:=E.mu++[some b],S:=E.S++[.mp (lkE E'.S es) c],base:=E.base,im0:=E.im0,act:=E.act }:Env).Im q o:=fun r q o cs t k1 k2=>by
     have hge:E.w.heap.size≤q:=by
      rcases Nat.lt_or_ge q E.w.heap.size with hlt|hge
      ·exact absurd k2 ((hfree q hlt).1 r)
      ·exact hge
     refine hnew q o hge (h3.lt r q k2) (fun e=>?_)
     have:r=i:=h3.inj r i b (by rw [← e];exact k2) m1
     rw [this,hS'] at k1
     cases k1
    refine ⟨b,ms,hmb,m2,by simp [lkE,m3],fun q hq=>?_⟩
    have hq':q<es.length:=by simpa [lkE] using hq
    obtain ⟨o1,o2⟩:=okE_mem hp _ (List.getElem_mem hq')
    simp only [lkE,List.getElem_map]
    exact ⟨(clo_ok _ o1).move hsee2 (m4 q hq').1,lkM_ok (E':={ E' with mu:=E.mu++[some b],S:=E.S++[.mp (lkE E'.S es) c],base:=E.base,im0:=E.im0,act:=E.act }) h3 rfl hsee2 hbx (m4 q hq').2.1 o2,(m4 q hq').2.2⟩
   ·rw [hi] at k';simp at k'
 ·cases h6 with
  |map _ b' hm hb =>
   have:b'=b:=by rw [m1] at hm;injection hm with hm;injection hm with hm;exact hm.symm
   subst this
   exact .map _ _ hmb ⟨.mp (lkE T es) c,by simp,rfl⟩
theorem xACallS {C:Cx} {tab:FuncId→Option FE} {ext:FuncId→List AVal→Option AVal} (hT:TabOk C tab ext) (n:Nat) {f:FuncId} {e:FE} (he:tab f=some e) {args:List AVal} (hlen:args.length≤e.N) {S T:St} {v:AVal}
  (h:(match xRun C tab ext n e.q e.N f e.body (frame0 args) S with
   |some (x,fr,U)=>match xRes C fr U e.rs with
    |some w=>some (isFin x,w,U)
    |none=>none
   |none=>none)=some (true,v,T)):ACall C f args S v T:=by
 split at h
 ·next x fr U hx =>
  split at h
  ·next w hw =>
   injection h with h
   injection h with h1 h2
   injection h2 with h2 h3
   subst h2 h3
   exact (xRun_both hT n).1.acall hT he hlen hx h1 hw
  ·cases h
 ·cases h
end
end Go.Am
