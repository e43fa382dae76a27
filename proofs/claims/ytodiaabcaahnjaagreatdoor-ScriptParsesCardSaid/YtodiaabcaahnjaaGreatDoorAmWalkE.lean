/- Walk rules: a range over a function, its rounds, the call of the loop's body. -/
import Derived.Test.YtodiaabcaahnjaaGreatDoorAmFreshZ
import Derived.Test.YtodiaabcaahnjaaGreatDoorAmYield
import Derived.Test.YtodiaabcaahnjaaGreatDoorAmFreshG
import Derived.Test.YtodiaabcaahnjaaGreatDoorS17
set_option linter.unusedVariables false
set_option linter.unusedSimpArgs false
section
namespace Go.Am
open Go
section
variable {C:Cx} {N:Nat}
end
end Go.Am
end
section
namespace Go.Am
open Go
noncomputable section
theorem ACall.freshGr {C:Cx} (hG:GClosed C) {f:FuncId} {args:List AVal} {i:Nat} {T:St} {xs:List AVal} {t:TypeId} {sz:Nat} (h:ACall C f args [] (.sl sz false xs (.grow i)) T) (hT:T[i]? = some (.grow xs.length sz t))
  (hp:∀ x∈xs,∀ c∈x.cells,Plain c) (ha:bels 0 args=true) (S:St):ACall C f args S (.sl sz false xs (.grow S.length)) (S++[.grow xs.length sz t]):=by
 refine ⟨h.callable,fun E vs hE hES hvs hrel=>?_⟩
 subst hES
 have hsee:Sees E (env0 E.w E.Im):=⟨fun b o hi=>⟨⟨hi.1,.inl ⟨hi.1,hi⟩⟩,rfl⟩⟩
 have hE0:Wf C.G (env0 E.w E.Im) :=
  ⟨rfl,fun i j b h=>by simp [env0] at h,fun i b h=>by simp [env0] at h,Nat.le_refl _,fun b o _ _ i=>by simp [env0],fun i x h=>by simp [env0] at h,
   fun g v hg=>⟨(hG g v hg).move hsee (hE.glob g v hg).r,fun i=>by simp [env0],(hE.glob g v hg).obj⟩⟩
 refine (h.ok (env0 E.w E.Im) vs hE0 (by simp [env0]) hvs fun j hj=>(clo_ok _ (bels_iff.1 ha _ (List.getElem_mem hj))).move hsee (hrel j hj)).mono ?_
 rintro _ _ ⟨E',v,h1,h2,h3,h4,h5,h6⟩
 subst h1 h2
 have hS':E'.S[i]? = some (.grow xs.length sz t):=by rw [h5];exact hT
 cases h6 with
 |sl _ _ _ ad n cp fv hn hcc hcm hf hcs hr ht =>
 obtain ⟨m,t',g1,g2,g3⟩:=ht
 rw [hS'] at g1
 injection g1 with g1
 injection g1 with e1 e2 e3
 subst e3
 rcases g3 (by omega) with ⟨_,k0⟩|⟨b,arr,m1,had,m2,m3⟩
 ·have hg:E.w.grownBy E'.w none:=h4.grown (by simp [env0]) (Nat.le_refl _)
  obtain ⟨x1,x2⟩:=env_grown hE hg
  obtain ⟨y1,y2⟩:=env_ghost x2 xs.length sz t
  have hx:=x1.trans hE y1
  have hIm:∀ b o,E'.Im b o→({ E with w:=E'.w,mu:=E.mu++[none],S:=E.S++[.grow xs.length sz t] }:Env).Im b o∧E'.w.cell? ⟨b,o,none⟩=E'.w.cell? ⟨b,o,none⟩:=by
   intro b o ⟨q1,q2⟩
   have hbase:E'.base=E.w.heap.size:=h4.base
   have him0:E'.im0=E.Im:=h4.im0
   have hnew:E.w.heap.size≤b→({ E with w:=E'.w,mu:=E.mu++[none],S:=E.S++[.grow xs.length sz t] }:Env).Im b o:=fun hge=>by
    refine ⟨q1,.inr (.inl ⟨Nat.le_trans hE.base hge,fun j hj=>?_⟩)⟩
    have hj:(E.mu++[none])[j]? = some (some b):=hj
    rw [List.getElem?_append] at hj
    split at hj
    ·have:=hE.lt j b hj;omega
    ·rcases hi:j-E.mu.length with _|k
     ·rw [hi] at hj;simp at hj
     ·rw [hi] at hj;simp at hj
   refine ⟨?_,rfl⟩
   rcases q2 with ⟨k1,k2⟩|⟨k1,_⟩|⟨k1,_⟩
   ·rw [him0] at k2
    exact (Env.Im.ext hx k2 hE.im).1
   ·exact hnew (by rw [hbase] at k1;exact k1)
   ·exact hnew (by rw [hbase] at k1;exact k1)
  have hsee:Sees E' { E with w:=E'.w,mu:=E.mu++[none],S:=E.S++[.grow xs.length sz t] }:=⟨hIm⟩
  refine ⟨{ E with w:=E'.w,mu:=E.mu++[none],S:=E.S++[.grow xs.length sz t] },_,rfl,rfl,y2,hx,rfl,?_⟩
  refine .sl _ _ _ _ n cp fv hn hcc hcm (fun q hq=>hsee.holds (hf q hq)) hcs (fun k hk j hj=>?_) ⟨xs.length,t,by rw [List.getElem?_append_right (Nat.le_refl _)];simp,by omega,fun _=>.inl ⟨by rw [← hE.len];simp,by omega⟩⟩
  exact Plain.move (hr k hk j hj) (hp _ (List.getElem_mem hk) _ (List.getElem_mem hj))
 injection had with had
 subst had
 have hfree:∀ q,q<E.w.heap.size→E'.free q∧E'.w.heap[q]? = E.w.heap[q]?:=fun q hq=>(h4.free q hq (fun j hj=>by simp [env0] at hj)).imp_right fun k=>k.old hq
 have hbge:E.w.heap.size≤b:=by
  rcases Nat.lt_or_ge b E.w.heap.size with hlt|hge
  ·exact absurd m1 ((hfree b hlt).1 i)
  ·exact hge
 have hblt:=h3.lt i b m1
 have hmu:∀ j:Nat,j<E.S.length→(E.mu++[some b])[j]? = E.mu[j]?:=fun j hj=>List.getElem?_append_left (by rw [hE.len];exact hj)
 have hSS:∀ j:Nat,j<E.S.length→(E.S++[ABox.grow xs.length sz t])[j]? = E.S[j]?:=fun j hj=>List.getElem?_append_left hj
 have lt_of:∀ (j:Nat) (y:ABox),E.S[j]? = some y→j<E.S.length:=fun j y h=>by
  rcases Nat.lt_or_ge j E.S.length with hlt|hge
  ·exact hlt
  ·rw [List.getElem?_eq_none hge] at h;cases h
 have hmem:∀ (j q:Nat),(E.mu++[some b])[j]? = some (some q)→(j<E.S.length∧E.mu[j]? = some (some q))∨(j=E.S.length∧q=b):=by
  intro j q h
  rw [List.getElem?_append] at h
  split at h
  ·exact .inl ⟨by rw [← hE.len];assumption,h⟩
  ·rcases hi:j-E.mu.length with _|k
   ·rw [hi] at h
    refine .inr ⟨by rw [← hE.len];omega,?_⟩
    simp at h;exact h.symm
   ·rw [hi] at h;simp at h
 have hsz:E.w.heap.size≤E'.w.heap.size:=h4.size
 have hfr:∀ q,q<E.w.heap.size→E.free q→∀ j:Nat,(E.mu++[some b])[j]? ≠ some (some q):=by
  intro q hq hf j hj
  rcases hmem j q hj with ⟨_,k2⟩|⟨_,k2⟩
  ·exact hf j k2
  ·omega
 have hxt:Ext E { E' with mu:=E.mu++[some b],S:=E.S++[.grow xs.length sz t],base:=E.base,im0:=E.im0,act:=E.act }:=by
  refine ⟨rfl,rfl,rfl,hsz,h4.os,h4.tape,h4.output,by simp,fun q hq hf=>⟨hfr q hq hf,.inl (hfree q hq).2⟩,fun j y h hy=>⟨hmu j (lt_of j y h),y,(hSS j (lt_of j y h)).trans h,hy⟩,
   fun j n sz t h=>⟨n,(hSS j (lt_of j _ h)).trans h,Nat.le_refl _,fun _=>⟨hmu j (lt_of j _ h),fun q hq=>(hfree q (hE.lt j q hq)).2⟩,
    fun q hq=>⟨fun o _=>cell_same (hfree q (hE.lt j q hq)).2 _ _,.inl ((hmu j (lt_of j _ h)).trans hq)⟩⟩,fun j q o h hq=>⟨(hSS j (lt_of j _ h)).trans h,(hfree q (hE.lt j q hq)).2⟩⟩
 have hmb:(E.mu++[some b])[E.S.length]? = some (some b):=by rw [← hE.len];simp
 refine ⟨{ E' with mu:=E.mu++[some b],S:=E.S++[.grow xs.length sz t],base:=E.base,im0:=E.im0,act:=E.act },_,rfl,rfl,⟨by simp [hE.len],fun j j' q k1 k2=>?_,fun j q k=>?_,Nat.le_trans hE.base hsz,fun q o k1 k2=>?_,fun j y k=>?_,fun g u k=>(hE.glob g u k).ext hE hxt⟩,hxt,rfl,?_⟩
 ·rcases hmem j q k1 with ⟨_,m1⟩|⟨e1,c1⟩<;>rcases hmem j' q k2 with ⟨_,m2⟩|⟨e2,c2⟩
  ·exact hE.inj j j' q m1 m2
  ·have:=hE.lt j q m1;omega
  ·have:=hE.lt j' q m2;omega
  ·omega
 ·rcases hmem j q k with ⟨_,m1⟩|⟨_,c1⟩
  ·exact Nat.lt_of_lt_of_le (hE.lt j q m1) hsz
  ·rw [c1];exact hblt
 ·have k1:q<E.base:=k1
  have k2:E.im0 q o:=k2
  exact hfr q (Nat.lt_of_lt_of_le k1 hE.base) (hE.im q o k1 k2)
 ·have k':(E.S++[ABox.grow xs.length sz t])[j]? = some y:=k
  rw [List.getElem?_append] at k'
  split at k'
  ·next hl=>exact (hE.entry j y k').keep hE hxt (hmu j hl) fun q hq=>(hfree q (hE.lt j q hq)).2
  ·next hl =>
   rcases hi:j-E.S.length with _|k
   ·rw [hi] at k'
    simp at k'
    subst k'
    have:j=E.S.length:=by omega
    subst this
    exact .inr ⟨b,arr,hmb,Nat.le_trans hE.base hbge,m2,by rw [m3];exact Nat.mul_le_mul_right _ (by omega)⟩
   ·rw [hi] at k';simp at k'
 ·refine .sl _ _ _ _ n cp fv hn hcc hcm (fun q hq=>?_) hcs (fun k hk j hj=>?_) ⟨xs.length,t,by rw [List.getElem?_append_right (Nat.le_refl _)];simp,by omega,fun _=>.inr ⟨b,arr,hmb,rfl,m2,m3⟩⟩
  ·obtain ⟨f1,f2,_,f4⟩:=hf q hq
   refine ⟨f1,f2,⟨hblt,.inr (.inr ⟨Nat.le_trans hE.base hbge,E.S.length,xs.length,sz,t,hmb,?_,by rw [← hn];simpa using hq⟩)⟩,f4⟩
   show (E.S++[ABox.grow xs.length sz t])[E.S.length]? = _
   rw [List.getElem?_append_right (Nat.le_refl _)];simp
  ·exact Plain.move (hr k hk j hj) (hp _ (List.getElem_mem hk) _ (List.getElem_mem hj))
end
end Go.Am
end
section
namespace Go.Am
open Go Go.Proofs
set_option maxHeartbeats 8000000
set_option maxRecDepth 100000
section
attribute [local irreducible] aC aL thenQ blockQ scopeQ ALoop AWp
theorem at0 {α:Type} {l r:List α} {x:α} {n:Nat} (h:l.length=n):(l++x::r)[n]? = some x:=by subst h;simp
theorem at1 {α:Type} {l r:List α} {x y:α} {n:Nat} (h:l.length+1=n):(l++x::y::r)[n]? = some y:=by subst h;rw [List.getElem?_append_right (by omega)];simp
theorem set0 {α:Type} {l r:List α} {x z:α} {n:Nat} (h:l.length=n):(l++x::r).set n z=l++z::r:=by subst h;simp
theorem set1 {α:Type} {l r:List α} {x y z:α} {n:Nat} (h:l.length+1=n):(l++x::y::r).set n z=l++x::z::r:=by subst h;rw [List.set_append_right _ _ (by omega)];simp
attribute [go_sem] at0 at1 set0 set1
def GRAN:List UInt8:=[103,114,97,110,117,108,101,115]
def MASTER:List UInt8:=[109,97,115,116,101,114]
def DRAW:List UInt8:=[100,114,97,119]
def ENTR:List UInt8:=[101,110,116,114,111,112,121]
def entT (n:Nat):List UInt8:=numT ENTR [n]
theorem bels_dgs (n:Nat) (d:List (List UInt8)):bels n (dgs d)=true:=bels_iff.2 fun x hx=>by
 obtain ⟨b,_,rfl⟩:=List.mem_map.1 hx
 exact bels_iff.2 fun y hy=>by obtain ⟨c,_,rfl⟩:=List.mem_map.1 hy;rfl
theorem bels_bytes' (n:Nat) (l:List UInt8):bels n (bl l)=true:=bels_iff.2 fun x hx=>by obtain ⟨b,_,rfl⟩:=List.mem_map.1 hx;rfl
theorem bels_append' (n:Nat) (a b:List AVal):bels n (a++b)=(bels n a&&bels n b):=by
 rw [Bool.eq_iff_iff,Bool.and_eq_true,bels_iff,bels_iff,bels_iff]
 simp only [List.mem_append,or_imp,forall_and]
theorem bels_suC (n:Nat) (s:Su) (nd ne:Bool):bels n (suC s nd ne)=true:=by
 simp [suC,bels,bel,bels_append',bels_bytes',bels_dgs,bels_wl,belT]
end
end Go.Am
end
