/- The abstract layer: a call that makes one box of its own, behind whatever there is. -/
import Derived.Test.YteemcehaekffeaaGreatAmExec4
set_option linter.unusedVariables false
set_option linter.unusedSimpArgs false
namespace Go.Am
open Go
noncomputable section
mutual
def plainV:AVal→Bool
 |.int _ _=>true
 |.bool _=>true
 |.str _=>true
 |.nilp=>true
 |.nilmap=>true
 |.nilfn=>true
 |.nilifc=>true
 |.agg cs=>plainVs cs
 |.tup cs=>plainVs cs
 |.fn _ as bs=>plainVs as&&plainVs bs
 |.ifc _ v=>plainV v
 |_=>false
def plainVs:List AVal→Bool
 |[]=>true
 |v::vs=>plainV v&&plainVs vs
end
theorem plainVs_mem:∀ {vs:List AVal},plainVs vs=true→∀ v∈vs,plainV v=true
 |v::vs,h,w,hw=>by
  simp only [plainVs,Bool.and_eq_true] at h
  rcases List.mem_cons.1 hw with rfl|hw
  ·exact h.1
  ·exact plainVs_mem h.2 w hw
theorem R.plain {E E':Env} {v:AVal} {x:Value} (h:R E v x) (hp:plainV v=true):R E' v x:=by
 induction h with
 |int k n=>exact .int k n
 |bool b=>exact .bool b
 |str s l h=>exact .str s l h
 |nilp=>exact .nilp
 |nilmap=>exact .nilmap
 |nilfn=>exact .nilfn
 |nilifc=>exact .nilifc
 |agg cs as h1 hx ih=>exact .agg cs as h1 fun j hj=>ih j hj (plainVs_mem hp _ (List.getElem_mem hj))
 |tup cs as h1 hx ih=>exact .tup cs as h1 fun j hj=>ih j hj (plainVs_mem hp _ (List.getElem_mem hj))
 |fn f xs ys as bs h1 h2 hx hy ihx ihy =>
  simp only [plainV,Bool.and_eq_true] at hp
  exact .fn f xs ys as bs h1 h2 (fun j hj=>ihx j hj (plainVs_mem hp.1 _ (List.getElem_mem hj))) fun j hj=>ihy j hj (plainVs_mem hp.2 _ (List.getElem_mem hj))
 |ifc t v x hx ih=>exact .ifc t v x (ih hp)
 |_=>cases hp
def plainP:List (AVal × AVal)→Bool
 |[]=>true
 |(k,v)::r=>plainV k&&plainV v&&plainP r
theorem plainP_mem:∀ {es:List (AVal × AVal)},plainP es=true→∀ e∈es,plainV e.1=true∧plainV e.2=true
 |(k,v)::r,h,e,he=>by
  simp only [plainP,Bool.and_eq_true] at h
  rcases List.mem_cons.1 he with rfl|he
  ·exact h.1
  ·exact plainP_mem h.2 e he
theorem ACall.freshX {C:Cx} (hG:GClosed C) {f:FuncId} {args:List AVal} {i:Nat} {T:St} {es:List (AVal × AVal)} {c:Nat} (h:ACall C f args [] (.map i) T) (hT:T[i]? = some (.mpx es c)) (hp:plainP es=true) (ha:bels 0 args=true) (S:St) :
  ACall C f args S (.map S.length) (S++[.mpx es c]):=by
 refine ⟨h.callable,fun E vs hE hES hvs hrel=>?_⟩
 subst hES
 have hsee:Sees E (env0 E.w E.Im):=⟨fun b o hi=>⟨⟨hi.1,.inl ⟨hi.1,hi⟩⟩,rfl⟩⟩
 have hE0:Wf C.G (env0 E.w E.Im) :=
  ⟨rfl,fun i j b h=>by simp [env0] at h,fun i b h=>by simp [env0] at h,Nat.le_refl _,fun b o _ _ i=>by simp [env0],fun i x h=>by simp [env0] at h,
   fun g v hg=>⟨(hG g v hg).move hsee (hE.glob g v hg).r,fun i=>by simp [env0],(hE.glob g v hg).obj⟩⟩
 refine (h.ok (env0 E.w E.Im) vs hE0 (by simp [env0]) hvs fun j hj=>(clo_ok _ (bels_iff.1 ha _ (List.getElem_mem hj))).move hsee (hrel j hj)).mono ?_
 rintro _ _ ⟨E',v,h1,h2,h3,h4,h5,h6⟩
 subst h1 h2
 have hS':E'.S[i]? = some (.mpx es c):=by rw [h5];exact hT
 obtain ⟨es',hmx,b,ms,m1,m2,m3,m4⟩:=h3.entry i _ hS'
 have hfree:∀ q,q<E.w.heap.size→E'.free q∧E'.w.heap[q]? = E.w.heap[q]?:=fun q hq=>(h4.free q hq (fun j hj=>by simp [env0] at hj)).imp_right fun k=>k.old hq
 have hbge:E.w.heap.size≤b:=by
  rcases Nat.lt_or_ge b E.w.heap.size with hlt|hge
  ·exact absurd m1 ((hfree b hlt).1 i)
  ·exact hge
 have hblt:=h3.lt i b m1
 have hmu:∀ j:Nat,j<E.S.length→(E.mu++[some b])[j]? = E.mu[j]?:=fun j hj=>List.getElem?_append_left (by rw [hE.len];exact hj)
 have hSS:∀ j:Nat,j<E.S.length→(E.S++[ABox.mpx es c])[j]? = E.S[j]?:=fun j hj=>List.getElem?_append_left hj
 have lt_of:∀ (j:Nat) (y:ABox),E.S[j]? = some y→j<E.S.length:=fun j y h=>by
  rcases Nat.lt_or_ge j E.S.length with hlt|hge
  ·exact hlt
  ·rw [List.getElem?_eq_none hge] at h;cases h
 have hmem:∀ (j q:Nat),(E.mu++[some b])[j]? = some (some q)→(j<E.S.length∧E.mu[j]? = some (some q))∨(j=E.S.length∧q=b):=by
  intro j q h
  rw [List.getElem?_append] at h
  split at h
  ·exact .inl ⟨by rw [← hE.len];assumption,h⟩
  ·rcases hi:j-E.mu.length with _|k
   ·rw [hi] at h
    refine .inr ⟨by rw [← hE.len];omega,?_⟩
    simp at h;exact h.symm
   ·rw [hi] at h;simp at h
 have hsz:E.w.heap.size≤E'.w.heap.size:=h4.size
 have hfr:∀ q,q<E.w.heap.size→E.free q→∀ j:Nat,(E.mu++[some b])[j]? ≠ some (some q):=by
  intro q hq hf j hj
  rcases hmem j q hj with ⟨_,k2⟩|⟨_,k2⟩
  ·exact hf j k2
  ·omega
 have hxt:Ext E { E' with mu:=E.mu++[some b],S:=E.S++[.mpx es c],base:=E.base,im0:=E.im0,act:=E.act }:=by
  refine ⟨rfl,rfl,rfl,hsz,h4.os,h4.tape,h4.output,by simp,fun q hq hf=>⟨hfr q hq hf,.inl (hfree q hq).2⟩,fun j y h hy=>⟨hmu j (lt_of j y h),y,(hSS j (lt_of j y h)).trans h,hy⟩,
   fun j n sz t h=>⟨n,(hSS j (lt_of j _ h)).trans h,Nat.le_refl _,fun _=>⟨hmu j (lt_of j _ h),fun q hq=>(hfree q (hE.lt j q hq)).2⟩,
    fun q hq=>⟨fun o _=>cell_same (hfree q (hE.lt j q hq)).2 _ _,.inl ((hmu j (lt_of j _ h)).trans hq)⟩⟩,fun j q o h hq=>⟨(hSS j (lt_of j _ h)).trans h,(hfree q (hE.lt j q hq)).2⟩,fun j cs t h hj=>⟨⟨cs,t,(hSS j hj).symm.trans h⟩,fun q hq=>.same (hfree q (hE.lt j q hq)).2⟩⟩
 have hmb:(E.mu++[some b])[E.S.length]? = some (some b):=by rw [← hE.len];simp
 refine ⟨{ E' with mu:=E.mu++[some b],S:=E.S++[.mpx es c],base:=E.base,im0:=E.im0,act:=E.act },v,rfl,rfl,⟨by simp [hE.len],fun j j' q k1 k2 d=>?_,fun j q k=>?_,Nat.le_trans hE.base hsz,fun q o k1 k2=>?_,fun j y k=>?_,fun g u k=>(hE.glob g u k).ext hE hxt⟩,hxt,rfl,?_⟩
 ·rcases hmem j q k1 with ⟨l1,m1⟩|⟨e1,c1⟩<;>rcases hmem j' q k2 with ⟨l2,m2⟩|⟨e2,c2⟩
  ·exact hE.inj j j' q m1 m2 fun e=>d (share_push l1 l2 e)
  ·have:=hE.lt j q m1;omega
  ·have:=hE.lt j' q m2;omega
  ·omega
 ·rcases hmem j q k with ⟨_,m1⟩|⟨_,c1⟩
  ·exact Nat.lt_of_lt_of_le (hE.lt j q m1) hsz
  ·rw [c1];exact hblt
 ·have k1:q<E.base:=k1
  have k2:E.im0 q o:=k2
  exact hfr q (Nat.lt_of_lt_of_le k1 hE.base) (hE.im q o k1 k2)
 ·have k':(E.S++[ABox.mpx es c])[j]? = some y:=k
  rw [List.getElem?_append] at k'
  split at k'
  ·next hl=>exact (hE.entry j y k').keep hE hxt (hmu j hl) fun q hq=>(hfree q (hE.lt j q hq)).2
  ·next hl =>
   rcases hi:j-E.S.length with _|k
   ·rw [hi] at k'
    simp at k'
    subst k'
    have:j=E.S.length:=by omega
    subst this
    have hpe:∀ e∈es',plainV e.1=true∧plainV e.2.1=true:=fun e he=>plainP_mem hp (e.1,e.2.1) (hmx.perm.mem_iff.1 (List.mem_map.2 ⟨e,he,rfl⟩))
    exact ⟨es',hmx,b,ms,hmb,m2,m3,fun q hq=>⟨(m4 q hq).1.plain (hpe _ (List.getElem_mem hq)).1,(m4 q hq).2.1.plain (hpe _ (List.getElem_mem hq)).2,(m4 q hq).2.2⟩⟩
   ·rw [hi] at k';simp at k'
 ·cases h6 with
  |map _ b' hm hb =>
   have:b'=b:=by rw [m1] at hm;injection hm with hm;injection hm with hm;exact hm.symm
   subst this
   exact .map _ _ hmb ⟨.mpx es c,by simp,rfl⟩
end
end Go.Am
