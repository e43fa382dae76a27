/- The abstract layer: a call that makes a map of its own, in whatever order it was laid. -/
import Derived.Test.YtodiaabcaahnjaaGreatDoorAmFresh
import Derived.Test.YtodiaabcaahnjaaGreatDoorAmWalkB
set_option linter.unusedVariables false
set_option linter.unusedSimpArgs false
section
namespace Go.Am
open Go
noncomputable section
theorem ACall.freshZ {C:Cx} (hG:GClosed C) {f:FuncId} {args:List AVal} {i:Nat} {T:St} {es:List (AVal × AVal)} {c:Nat} {z:ABox} (h:ACall C f args [] (.map i) T) (hT:T[i]? = some z) (hz:mapZ es c z) (hp:plainP es=true) (ha:bels 0 args=true) (S:St) :
  ACall C f args S (.map S.length) (S++[.mpx es c]):=by
 refine ⟨h.callable,fun E vs hE hES hvs hrel=>?_⟩
 subst hES
 have hsee:Sees E (env0 E.w E.Im):=⟨fun b o hi=>⟨⟨hi.1,.inl ⟨hi.1,hi⟩⟩,rfl⟩⟩
 have hE0:Wf C.G (env0 E.w E.Im) :=
  ⟨rfl,fun i j b h=>by simp [env0] at h,fun i b h=>by simp [env0] at h,Nat.le_refl _,fun b o _ _ i=>by simp [env0],fun i x h=>by simp [env0] at h,
   fun g v hg=>⟨(hG g v hg).move hsee (hE.glob g v hg).r,fun i=>by simp [env0],(hE.glob g v hg).obj⟩⟩
 refine (h.ok (env0 E.w E.Im) vs hE0 (by simp [env0]) hvs fun j hj=>(clo_ok _ (bels_iff.1 ha _ (List.getElem_mem hj))).move hsee (hrel j hj)).mono ?_
 rintro _ _ ⟨E',v,h1,h2,h3,h4,h5,h6⟩
 subst h1 h2
 have hS':E'.S[i]? = some z:=by rw [h5];exact hT
 obtain ⟨es',hmx,b,ms,m1,m2,m3,m4⟩ : ∃ es',MX es es' c∧mpOk E' i es' c:=by
  have he:=h3.entry i _ hS'
  rcases hz with rfl|⟨es0,rfl,hx⟩
  ·exact he
  ·exact ⟨es0,hx,he⟩
 have hfree:∀ q,q<E.w.heap.size→E'.free q∧E'.w.heap[q]? = E.w.heap[q]?:=fun q hq=>(h4.free q hq (fun j hj=>by simp [env0] at hj)).imp_right fun k=>k.old hq
 have hbge:E.w.heap.size≤b:=by
  rcases Nat.lt_or_ge b E.w.heap.size with hlt|hge
  ·exact absurd m1 ((hfree b hlt).1 i)
  ·exact hge
 have hblt:=h3.lt i b m1
 have hmu:∀ j:Nat,j<E.S.length→(E.mu++[some b])[j]? = E.mu[j]?:=fun j hj=>List.getElem?_append_left (by rw [hE.len];exact hj)
 have hSS:∀ j:Nat,j<E.S.length→(E.S++[ABox.mpx es c])[j]? = E.S[j]?:=fun j hj=>List.getElem?_append_left hj
 have lt_of:∀ (j:Nat) (y:ABox),E.S[j]? = some y→j<E.S.length:=fun j y h=>by
  rcases Nat.lt_or_ge j E.S.length with hlt|hge
  ·exact hlt
  ·rw [List.getElem?_eq_none hge] at h;cases h
 have hmem:∀ (j q:Nat),(E.mu++[some b])[j]? = some (some q)→(j<E.S.length∧E.mu[j]? = some (some q))∨(j=E.S.length∧q=b):=by
  intro j q h
  rw [List.getElem?_append] at h
  split at h
  ·exact .inl ⟨by rw [← hE.len];assumption,h⟩
  ·rcases hi:j-E.mu.length with _|k
   ·rw [hi] at h
    refine .inr ⟨by rw [← hE.len];omega,?_⟩
    simp at h;exact h.symm
   ·rw [hi] at h;simp at h
 have hsz:E.w.heap.size≤E'.w.heap.size:=h4.size
 have hfr:∀ q,q<E.w.heap.size→E.free q→∀ j:Nat,(E.mu++[some b])[j]? ≠ some (some q):=by
  intro q hq hf j hj
  rcases hmem j q hj with ⟨_,k2⟩|⟨_,k2⟩
  ·exact hf j k2
  ·omega
 have hxt:Ext E { E' with mu:=E.mu++[some b],S:=E.S++[.mpx es c],base:=E.base,im0:=E.im0,act:=E.act }:=by
  refine ⟨rfl,rfl,rfl,hsz,h4.os,h4.tape,h4.output,by simp,fun q hq hf=>⟨hfr q hq hf,.inl (hfree q hq).2⟩,fun j y h hy=>⟨hmu j (lt_of j y h),y,(hSS j (lt_of j y h)).trans h,hy⟩,
   fun j n sz t h=>⟨n,(hSS j (lt_of j _ h)).trans h,Nat.le_refl _,fun _=>⟨hmu j (lt_of j _ h),fun q hq=>(hfree q (hE.lt j q hq)).2⟩,
    fun q hq=>⟨fun o _=>cell_same (hfree q (hE.lt j q hq)).2 _ _,.inl ((hmu j (lt_of j _ h)).trans hq)⟩⟩,fun j q o h hq=>⟨(hSS j (lt_of j _ h)).trans h,(hfree q (hE.lt j q hq)).2⟩⟩
 have hmb:(E.mu++[some b])[E.S.length]? = some (some b):=by rw [← hE.len];simp
 refine ⟨{ E' with mu:=E.mu++[some b],S:=E.S++[.mpx es c],base:=E.base,im0:=E.im0,act:=E.act },v,rfl,rfl,⟨by simp [hE.len],fun j j' q k1 k2=>?_,fun j q k=>?_,Nat.le_trans hE.base hsz,fun q o k1 k2=>?_,fun j y k=>?_,fun g u k=>(hE.glob g u k).ext hE hxt⟩,hxt,rfl,?_⟩
 ·rcases hmem j q k1 with ⟨_,m1⟩|⟨e1,c1⟩<;>rcases hmem j' q k2 with ⟨_,m2⟩|⟨e2,c2⟩
  ·exact hE.inj j j' q m1 m2
  ·have:=hE.lt j q m1;omega
  ·have:=hE.lt j' q m2;omega
  ·omega
 ·rcases hmem j q k with ⟨_,m1⟩|⟨_,c1⟩
  ·exact Nat.lt_of_lt_of_le (hE.lt j q m1) hsz
  ·rw [c1];exact hblt
 ·have k1:q<E.base:=k1
  have k2:E.im0 q o:=k2
  exact hfr q (Nat.lt_of_lt_of_le k1 hE.base) (hE.im q o k1 k2)
 ·have k':(E.S++[ABox.mpx es c])[j]? = some y:=k
  rw [List.getElem?_append] at k'
  split at k'
  ·next hl=>exact (hE.entry j y k').keep hE hxt (hmu j hl) fun q hq=>(hfree q (hE.lt j q hq)).2
  ·next hl =>
   rcases hi:j-E.S.length with _|k
   ·rw [hi] at k'
    simp at k'
    subst k'
    have:j=E.S.length:=by omega
    subst this
    have hpe:∀ e∈es',plainV e.1=true∧plainV e.2.1=true:=fun e he=>plainP_mem hp (e.1,e.2.1) (hmx.perm.mem_iff.1 (List.mem_map.2 ⟨e,he,rfl⟩))
    exact ⟨es',hmx,b,ms,hmb,m2,m3,fun q hq=>⟨(m4 q hq).1.plain (hpe _ (List.getElem_mem hq)).1,(m4 q hq).2.1.plain (hpe _ (List.getElem_mem hq)).2,(m4 q hq).2.2⟩⟩
   ·rw [hi] at k';simp at k'
 ·cases h6 with
  |map _ b' hm hb =>
   have:b'=b:=by rw [m1] at hm;injection hm with hm;injection hm with hm;exact hm.symm
   subst this
   exact .map _ _ hmb ⟨.mpx es c,by simp,rfl⟩
theorem xACallZ_ok {C:Cx} {tab:FuncId→Option FE} {ext:FuncId→List AVal→Option AVal} (hT:TabOk C tab ext) (n:Nat) {f:FuncId} {e:FE} (he:tab f=some e) {args:List AVal} (hlen:args.length≤e.N) {i c:Nat} {es:List (AVal × AVal)}
  (h:(match xRun C tab ext n e.q e.N f e.body (frame0 args) [] with
   |some (x,fr,T)=>bif isFin x then match xRes C fr T e.rs with
     |some (.map j)=>Nat.beq j i&&match T[i]? with
      |some z=>match mapPs z with
       |some (ps,c')=>Nat.beq c' c&&peqs ps es
       |none=>false
      |none=>false
     |_=>false
    else false
   |none=>false)=true) (hp:plainP es=true) (ha:bels 0 args=true) (S:St):ACall C f args S (.map S.length) (S++[.mpx es c]):=by
 split at h
 ·next x fr T hx =>
  cases hi:isFin x with
  |false=>rw [hi] at h;cases h
  |true =>
   rw [hi] at h
   simp only [cond_true] at h
   split at h
   ·next j hv =>
    simp only [Bool.and_eq_true] at h
    obtain ⟨h1,h2⟩:=h
    obtain rfl:=nbeq h1
    split at h2
    ·next z hz =>
     split at h2
     ·next ps c' hps =>
      simp only [Bool.and_eq_true] at h2
      have hm:=mapPs_ok hps
      rw [nbeq h2.1,peqs_ok h2.2] at hm
      exact ((xRun_both hT n).1.acall hT he hlen hx hi hv).freshZ hT.glob hz hm hp ha S
     ·cases h2
    ·cases h2
   ·cases h
 ·cases h
end
end Go.Am
end
section
namespace Go.Am
open Go
noncomputable section
theorem ACall.lendX {C:Cx} (hG:GClosed C) {f:FuncId} {args args0:List AVal} {r:AVal} {es:List (AVal × AVal)} {c:Nat} (h:ACall C f args0 [.mpx es c] r [.mpx es c]) (hp:plainP es=true) (hr:plainV r=true) {S:St} {i:Nat} (hS:S[i]? = some (.mpx es c))
  (hlen:args0.length=args.length) (ha:∀ j (h:j<args.length) (h0:j<args0.length),(plainV args0[j]=true∧args[j]=args0[j])∨(args0[j] = .map 0∧args[j] = .map i)):ACall C f args S r S:=by
 refine ⟨h.callable,fun E vs hE hES hvs hrel=>?_⟩
 subst hES
 obtain ⟨es',hmx,q,ms,m1,m2,m3,m4⟩:=hE.entry i _ hS
 have hpe:∀ e∈es',plainV e.1=true∧plainV e.2.1=true:=fun e he=>plainP_mem hp (e.1,e.2.1) (hmx.perm.mem_iff.1 (List.mem_map.2 ⟨e,he,rfl⟩))
 have hq:=hE.lt i q m1
 have nf:∀ b,E.free b→b≠q:=fun b hf e=>hf i (by rw [e];exact m1)
 have hm0:∀ (j b:Nat),([some q]:List (Option Nat))[j]? = some (some b)→j=0∧b=q:=by
  intro j b hj
  cases j with
  |zero=>exact ⟨rfl,by simpa using hj.symm⟩
  |succ j=>simp at hj
 have hfr0:∀ b,b≠q→∀ j:Nat,([some q]:List (Option Nat))[j]? ≠ some (some b):=fun b hb j hj=>hb (hm0 j b hj).2
 have hIm:∀ b o,E.Im b o→({ E with mu:=[some q],S:=[.mpx es c],base:=E.w.heap.size,im0:=fun b _=>b≠q }:Env).Im b o:=by
  intro b o ⟨k1,k2⟩
  refine ⟨k1,.inl ⟨k1,?_⟩⟩
  rcases k2 with k|⟨k,k3⟩|⟨k,i',n,sz,t,k3,k4,_⟩
  ·exact nf b (hE.im b o k.1 k.2)
  ·exact nf b k3
  ·intro e
   have:i'=i:=hE.inj i' i b k3 (by rw [e];exact m1)
   rw [this,hS] at k4
   cases k4
 have hsee:Sees E { E with mu:=[some q],S:=[.mpx es c],base:=E.w.heap.size,im0:=fun b _=>b≠q }:=⟨fun b o hi=>⟨hIm b o hi,rfl⟩⟩
 have hE0:Wf C.G { E with mu:=[some q],S:=[.mpx es c],base:=E.w.heap.size,im0:=fun b _=>b≠q }:=by
  refine ⟨rfl,fun j j' b k1 k2=>?_,fun j b k=>?_,Nat.le_refl _,fun b o _ k2=>hfr0 b k2,fun j x k=>?_,fun g v k=>⟨(hG g v k).move hsee (hE.glob g v k).r,hfr0 g (nf g (hE.glob g v k).free),(hE.glob g v k).obj⟩⟩
  ·rw [(hm0 j b k1).1,(hm0 j' b k2).1]
  ·rw [(hm0 j b k).2];exact hq
  ·cases j with
   |zero =>
    have k:ABox.mpx es c=x:=by simpa using k
    subst k
    exact ⟨es',hmx,q,ms,rfl,m2,m3,fun j hj=>⟨(m4 j hj).1.plain (hpe _ (List.getElem_mem hj)).1,(m4 j hj).2.1.plain (hpe _ (List.getElem_mem hj)).2,(m4 j hj).2.2⟩⟩
   |succ j=>simp at k
 refine (h.ok { E with mu:=[some q],S:=[.mpx es c],base:=E.w.heap.size,im0:=fun b _=>b≠q } vs hE0 rfl (hvs.trans hlen.symm) fun j hj=>?_).mono ?_
 ·have hj':j<args.length:=by omega
  have k:=hrel j hj'
  rcases ha j hj' hj with ⟨k1,k2⟩|⟨k1,k2⟩
  ·rw [k2] at k;exact k.plain k1
  ·rw [k2] at k
   rw [k1]
   generalize vs.getD j undef=x at k
   cases k with
   |map _ b hm hb =>
    have:b=q:=by rw [m1] at hm;injection hm with hm;injection hm with hm;exact hm.symm
    subst this
    exact .map _ _ rfl ⟨.mpx es c,rfl,rfl⟩
 ·rintro _ _ ⟨E',v,h1,h2,h3,h4,h5,h6⟩
  subst h1 h2
  have hsz:E.w.heap.size≤E'.w.heap.size:=h4.size
  have hfree:∀ p,p<E.w.heap.size→p≠q→E'.w.heap[p]? = E.w.heap[p]?:=fun p hp1 hp2=>(h4.free p hp1 (hfr0 p hp2)).2.old hp1
  have hmu':E'.mu[0]? = some (some q):=(h4.box 0 (.mpx es c) rfl rfl).1
  have ne_of:∀ (j p:Nat),j≠i→E.mu[j]? = some (some p)→p≠q:=fun j p hj hm e=>hj (hE.inj j i p hm (by rw [e];exact m1))
  have hxt:Ext E { E' with mu:=E.mu,S:=E.S,base:=E.base,im0:=E.im0 }:=by
   refine ⟨rfl,rfl,h4.act,hsz,h4.os,h4.tape,h4.output,Nat.le_refl _,fun p hp1 hf=>⟨hf,.inl (hfree p hp1 (nf p hf))⟩,fun j y k hy=>⟨rfl,y,k,hy⟩,
    fun j n sz t k=>⟨n,k,Nat.le_refl _,fun _=>⟨rfl,fun p hm=>hfree p (hE.lt j p hm) (ne_of j p (fun e=>by rw [e,hS] at k;cases k) hm)⟩,
     fun p hm=>⟨fun o _=>cell_same (hfree p (hE.lt j p hm) (ne_of j p (fun e=>by rw [e,hS] at k;cases k) hm)) _ _,.inl hm⟩⟩,fun j p o k hm=>⟨k,hfree p (hE.lt j p hm) (ne_of j p (fun e=>by rw [e,hS] at k;cases k) hm)⟩⟩
  refine ⟨{ E' with mu:=E.mu,S:=E.S,base:=E.base,im0:=E.im0 },v,rfl,rfl,⟨hE.len,hE.inj,fun j p k=>Nat.lt_of_lt_of_le (hE.lt j p k) hsz,Nat.le_trans hE.base hsz,fun p o k1 k2=>?_,fun j y k=>?_,fun g u k=>(hE.glob g u k).ext hE hxt⟩,hxt,rfl,h6.plain hr⟩
  ·exact hE.im p o k1 k2
  ·have k:E.S[j]? = some y:=k
   by_cases hj:j=i
   ·subst hj
    rw [hS] at k
    injection k with k
    subst k
    obtain ⟨es2,x1,q2,ms2,x2,x3,x4,x5⟩:=h3.entry 0 (.mpx es c) (by rw [h5];rfl)
    have:q2=q:=by rw [hmu'] at x2;injection x2 with x2;injection x2 with x2;exact x2.symm
    subst this
    have hpe2:∀ e∈es2,plainV e.1=true∧plainV e.2.1=true:=fun e he=>plainP_mem hp (e.1,e.2.1) (x1.perm.mem_iff.1 (List.mem_map.2 ⟨e,he,rfl⟩))
    exact ⟨es2,x1,q2,ms2,m1,x3,x4,fun j hj=>⟨(x5 j hj).1.plain (hpe2 _ (List.getElem_mem hj)).1,(x5 j hj).2.1.plain (hpe2 _ (List.getElem_mem hj)).2,(x5 j hj).2.2⟩⟩
   ·exact (hE.entry j y k).keep hE hxt rfl fun p hm=>hfree p (hE.lt j p hm) (ne_of j p hj hm)
end
end Go.Am
end
section
namespace Go.Am
open Go
noncomputable section
variable {C:Cx} {N:Nat}
theorem any_rule {aid out nx:Nat} {d pd:Option Nat} {it more it2:Operand} {rops aops:List LO} {code:LC} {k mi since last clock:Nat} {z:ABox} {ps:List (AVal × AVal)} {fr fr0:Fr} {S Sf:St} {Q:Post} (hC:C.Ok) (hG:GClosed C)
  (cont:AVal × AVal→Bool) (Res:Option (XE × Fr × St)) (hdn:∀ k,d=some k→k<N) (hpd:∀ k,pd=some k→k<N) (hsub:Sub fr fr0) (hit:aEval C fr0.get it = .ptr k 0)
  (hk:S[k]? = some (.iter (some mi) since [] last)) (hm:S[mi]? = some z) (hz:mapZ ps clock z) (hsc:clock≤since) (hSf:(S.set k (.frz none)).set mi (.frz (some ps))=Sf)
  (hbel:belS S.length Sf=true) (hbp:belP S.length ps=true) (hbf:belF S.length fr0=true)
  (hD:aL C none rops (fun frD SD=>SD=Sf∧aEval C frD.get more = .bool false∧(Res=none→Q (.exit out) frD (Sf.set mi z))) (fr0.put d (.tup [.bool false])) Sf)
  (hres:Res=none∨∃ e∈ps,cont e=false)
  (hround:∀ e∈ps,aL C none rops (fun fr1 S1=>S1=Sf∧aEval C fr1.get more = .bool true∧aEval C fr1.get it2 = .ptr k 0 ∧
   aL C none aops (fun fr2 S2=>∃ (x:XE) (fr3:Fr) (S3:St),aC C N code (fun e2 f2 T2=>e2=x.ex∧Sub f2 fr3∧T2=S3) fr2 S2 ∧
    ((cont e=true∧(x = .nrm∨x = .ext nx)∧S3.take S.length=Sf∧Sub fr3 fr0)∨(cont e=false∧x ≠ .nrm∧x ≠ .ext nx∧Res=some (x,fr3,S3)))) (fr1.put pd (.tup [e.1,e.2])) S1)
   (fr0.put d (.tup [.bool true,e.1,e.2])) Sf)
  (hfin:∀ x f T,Res=some (x,f,T)→Q x.ex f (T.set mi z)) :
  ALoop C N (.seq (.nxt d it rops) (.seq (.cond more .skip (.exit out)) (.block nx (.seq (.reg aid (⟨pd,.entry it2,none⟩::aops)) code)))) Q fr S:=by
 intro c hl hok F n hF hro E a hE hS hr
 obtain ⟨c1,c2,rfl,l1,l2⟩:=lite_seq hl
 obtain ⟨rid,ros,rrest,rfl,n1,rfl⟩:=lite_nxt l1
 obtain ⟨c3,c4,rfl,l3,l4⟩:=lite_seq l2
 obtain ⟨sk,c5,rfl,l5,l6⟩:=lite_cond l3
 obtain rfl:=lite_exit l6
 obtain ⟨c7,rfl,l7⟩:=lite_block l4
 obtain ⟨c8,c9,rfl,l8,l9⟩:=lite_seq l7
 obtain ⟨aos,draw,rfl,la⟩:=lite_reg l8
 have hsk:=lite_skip l5
 cases haos:aos.toList with
 |nil=>rw [haos] at la;cases la
 |cons p arest =>
  rw [haos] at la
  simp only [List.map_cons,List.cons.injEq] at la
  obtain ⟨lp,rfl⟩:=la
  have hp:p.op = .entry it2:=(congrArg LO.op lp).symm
  have hpd':p.dst=pd:=(congrArg LO.d lp).symm
  have hpg:p.guard=none:=by
   have:=congrArg LO.gd lp
   simp only [liteO] at this
   cases hg:p.guard with
   |none=>rfl
   |some g=>rw [hg] at this;cases this
  simp only [codeOk,Bool.and_eq_true] at hok
  obtain ⟨⟨⟨ok1,_⟩,_⟩,⟨_,⟨⟨ok2,_⟩,ok3⟩,ok4⟩⟩:=hok
  rw [List.all_eq_true] at ok1 ok2
  have hdraw:draw=false:=by
   cases draw with
   |false=>rfl
   |true =>
    simp only [Bool.not_true,Bool.false_or,Bool.not_eq_true',haos,entF,hp] at ok3
    cases ok3
  subst hdraw
  obtain ⟨_,o0,ro1,_⟩:=nextOf_some n1
  have hrok:∀ o∈rrest,dstB N o=true:=fun o ho=>ok1 o (by rw [ro1];exact List.mem_cons_of_mem _ ho)
  have haok:∀ o∈arest,dstB N o=true:=fun o ho=>ok2 o (by rw [haos];exact List.mem_cons_of_mem _ ho)
  obtain ⟨frD,SD,rD,eD,mD,fD⟩:=aL_run (N:=N) (ops:=ros) rrest _ _ hrok hD
  subst eD
  rw [Fr.get_put] at rD
  have hro':F.round=none∨noRF c9=true:=by
   rcases hro with h|h
   ·exact .inl h
   ·simp only [noRF,Bool.and_eq_true] at h
    exact .inr h.2.2.2
  have H:AnyOk C N out nx ros aos d it it2 more rrest arest p c9 k mi since last clock z ps fr0 frD S SD cont Res:=by
   refine ⟨n1,hdn,haos,hp,hpg,by rw [hpd'];exact hpd,hit,hk,hm,hz,hsc,hSf.symm,hbel,hbp,belF_get hbf,rD,mD,hres,fun e he=>?_⟩
   obtain ⟨fr1,S1,r1,e1,b1,i1,h1⟩:=aL_run (N:=N) (ops:=ros) rrest _ _ hrok (hround e he)
   subst e1
   rw [Fr.get_put] at r1
   obtain ⟨fr2,S2,r2,x,fr3,S3,w3,h3⟩:=aL_run (N:=N) (ops:=aos) arest _ _ haok h1
   rw [Fr.get_put,← hpd'] at r2
   have hw3:AWp C N c9 (fun e2 f2 T2=>e2=x.ex∧f2=fr3∧T2=S3) fr2 S2:=by
    intro F n hF hro E a hE hS hr
    refine wpIn_mono (aC_sound hC c9 _ fr2 S2 ok4 (by rw [l9];exact w3) F n hF hro E a hE hS hr) fun e a' w' h=>?_
    obtain ⟨E',fr',k1,k2,k3,k4,k5,k6,k7⟩:=h
    exact ⟨E',fr3,k1,k2,k3,k4.sub k6,k5,rfl,k7⟩
   exact ⟨fr1,fr2,S2,x,fr3,S3,r1,b1,i1,r2,hw3,h3⟩
  refine wpIn_loop_rounds _ (rounds_mono ?_ _ _ _ (any_loop hC hG H hsk F n hF hro' E a hE hS (hr.sub hsub)))
  rintro e2 a2 w2 ⟨E2,f2,y1,y2,y3,y4,y5⟩
  refine ⟨E2,f2,y1,y2,y3,y4,?_⟩
  unfold anyQ at y5
  cases hR:Res with
  |none =>
   rw [hR] at y5
   obtain ⟨rfl,rfl,y7⟩:=y5
   rw [y7]
   exact fD hR
  |some t =>
   obtain ⟨x,f,T⟩:=t
   rw [hR] at y5
   obtain ⟨rfl,rfl,y7⟩:=y5
   rw [y7]
   exact hfin _ _ _ hR
theorem loop_ruleD (hC:C.Ok) (hG:GClosed C) {l:LC} {Q:Post} {σ:Type} (I:σ→Fr) (T:σ→St) (m:σ→Nat) (J:σ→Prop) {fr fr1:Fr} {S S1:St} (n0:Nat) (s0:σ) (hg:GStep C N fr S fr1 S1) (h0:J s0∧Sub fr1 (I s0)∧S1=T s0)
  (hn:S.length≤n0) (hT:∀ s,J s→belS n0 (T s)=true∧belF n0 (I s)=true)
  (round:∀ s,J s→aC C N l (thenQ (fun fr' S'=>∃ s',J s'∧Sub fr' (I s')∧S'.take n0=T s'∧m s'<m s) Q) (I s) (T s)):ALoop C N l Q fr S:=by
 intro c hl hok F n hF hro E a hE hS hr
 refine wpIn_loop_ind (fun k a' w'=>∃ E' s,E'.w=w'∧Wf C.G E'∧Ext E E'∧J s∧E'.S=T s∧RF E' N (I s).get a'∧m s=k) ?_ (k:=m s0) (by obtain ⟨E1,e1,x1,w1,s1,r1⟩:=hg E a hE hS hr;exact ⟨E1,s0,e1,w1,x1,h0.1,s1.trans h0.2.2,r1.sub h0.2.1,rfl⟩)
 rintro k a' w' ⟨E',s,rfl,h2,h3,h4,h5,h6,rfl⟩
 refine wpIn_mono (aC_sound hC c _ (I s) (T s) hok (by rw [hl];exact round s h4) F n hF (by simpa [noRF] using hro) E' a' h2 h5 h6) ?_
 rintro e a2 w2 ⟨E2,fr2,rfl,k2,k3,k4,k5⟩
 cases e with
 |normal =>
  obtain ⟨s',j1,j2,j3,j4⟩:=k5
  obtain ⟨b1,b2⟩:=hT s' j1
  exact ⟨m s',j4,E2.cut n0,s',rfl,env_cut hG k2 (by rw [j3];exact b1),ext_cut (h3.trans hE k3) (by rw [hS];exact hn),j1,j3,(k4.sub j2).cut k2 (belF_get b2),rfl⟩
 |_=>exact ⟨E2,fr2,rfl,k2,h3.trans hE k3,k4,k5⟩
end
end Go.Am
end
