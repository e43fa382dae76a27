/- The abstract layer: a region that draws its order does what it does in the order of the text. -/
import Derived.Test.YteemcehaekffeaaGreatAmRun
set_option linter.unusedVariables false
set_option linter.unusedSimpArgs false
namespace Go.Am
open Go
noncomputable section
open Classical
def sameIns (x y:Op):Bool :=
 match x,y with
 |.insert t _ _ _,.insert t' _ _ _=>Nat.beq t t'
 |_,_=>false
def swapC (C:Cx) (f:Option UL) (x y:Oper):Bool :=
 match f with
 |none=>false
 |some U=>(Nat.beq (cls C x.op) 1&&inU U x.dst y.dst)||(Nat.beq (cls C y.op) 1&&inU U y.dst x.dst)||(Nat.beq (cls C y.op) 3&&(Nat.beq (cls C x.op) 2||Nat.beq (cls C x.op) 3)) ||
  (sameIns x.op y.op&&inU U none none)
theorem sameIns_ok {x y:Op} (h:sameIns x y=true):isIns x=true∧isIns y=true∧∀ {t m k v t' m' k' v'},x = .insert t m k v→y = .insert t' m' k' v'→t=t':=by
 unfold sameIns at h
 split at h
 ·next t _ _ _ t' _ _ _ =>
  refine ⟨rfl,rfl,fun e1 e2=>?_⟩
  injection e1 with e1
  injection e2 with e2
  rw [← e1,← e2]
  exact Nat.eq_of_beq_eq_true h
 ·cases h
def indepB (C:Cx) (f:Option UL) (ops:Array Oper) (x y:Oper):Bool :=
 x.apart ops y&&((cls C x.op==0||cls C y.op==0)||(cls C x.op==1&&cls C y.op==1)||swapC C f x y)
theorem cls1_move {C:Cx} {op:Op} {g:Nat→AVal} {S S':St} {out:Out} (hc:cls C op=1) (h:aStep C op g S=some out) (hS:∀ b,loadBox C op g=some b→S'[b]? = S[b]?) :
  aStep C op g S'=some ⟨out.sd,out.r,S'⟩:=by
 cases op<;>simp only [cls] at hc<;>try (simp at hc;done)
 case makeSlice t l c=>split at hc<;>cases hc
 case buildSlice t n ps=>split at hc<;>cases hc
 case convert s d x =>
  simp only [aStep,loadBox] at h hS ⊢
  unfold aConvert at h ⊢
  have hbs:bytesStr C s d=true:=by
   cases hq:bytesStr C s d
   ·rw [hq] at hc;simp at hc
   ·rfl
  have hv:∀ b off n c,aEval C g x = .view b off n c→S'[b]? = S[b]?:=fun b off n c e=>hS b (by rw [e];simp only [hbs,if_true])
  cases hx:aEval C g x
  case view b off n c =>
   rw [hx] at h
   dsimp only at h ⊢
   rw [hv b off n c hx]
   repeat' (split at h)
   all_goals first|(cases h;done)|(injection h with h;subst h;rfl)
  all_goals
   rw [hx] at h
   repeat' (split at h)
   all_goals first|(cases h;done)|(exfalso;cases ‹(_:AVal)=AVal.view _ _ _ _›;done)|(injection h with h;subst h;rfl)
 case load t x =>
  simp only [aStep,loadBox] at h hS ⊢
  unfold aLoad at h ⊢
  split at h
  ·cases h
  ·next i hi =>
   split at h
   ·next cs hx =>
    injection h with h;subst h
    rfl
   ·next b off hx =>
    rw [hx] at hS
    rw [hS b rfl]
    split at h
    ·next bs tb hb =>
     injection h with h;subst h
     rfl
    ·next bs tb hb =>
     injection h with h;subst h
     rfl
    ·cases h
   ·cases h
 case lookup t x k ok =>
  simp only [aStep,loadBox] at h hS ⊢
  unfold aLookup at h ⊢
  split at h
  ·cases h
  ·next i hi =>
   split at h
   ·split at h
    ·cases h
    ·next j hj =>
     split at h
     ·injection h with h;subst h
      rfl
     ·next b hx =>
      rw [hx] at hS
      rw [hS b rfl]
      split at h
      ·next es c hb =>
       injection h with h;subst h
       rfl
      ·split at h
       ·injection h with h;subst h
        rfl
       ·cases h
     ·cases h
   ·cases h
 case call c =>
  split at hc
  ·exact absurd hc (clsB_ne1 _ _ _)
  ·split at hc<;>cases hc
  ·cases hc
theorem StepX.move1 {C:Cx} {o:Oper} {g:Nat→AVal} {S S' S2:St} {r:AVal} (h:StepX C o g S r S') (hc:cls C o.op=1) (hS:∀ b,loadBox C o.op g=some b→S2[b]? = S[b]?):StepX C o g S2 r S2:=by
 cases h with
 |step out h hs=>exact .step ⟨out.sd,out.r,S2⟩ (cls1_move hc h hS) hs
 |call x xs ts f as bs r S' ho hf h =>
  rw [ho] at hc
  simp only [cls] at hc
  split at hc
  ·cases ‹_=Callee.builtin _›
  ·split at hc<;>cases hc
  ·cases hc
 |yield x xs ts i r S' ho hf h =>
  rw [ho] at hc
  simp only [cls] at hc
  split at hc
  ·cases ‹_=Callee.builtin _›
  ·split at hc<;>cases hc
  ·cases hc
 |fillA k t i ho hi hk=>simp [ho,cls] at hc
 |fillM k t ho hk=>simp [ho,cls] at hc
 |fillX k t ho hk=>simp [ho,cls] at hc
 |fillS k t e i j n m ho hi hd hj hb hk=>simp [ho,cls,constI] at hc
 |rowS t e i j m ho hi hd hj hb=>simp [ho,cls,constI] at hc
 |immS t e i j m ho hi hd hj hb=>simp [ho,cls,constI] at hc
 |boxI t x ho hs=>simp [ho,cls] at hc
 |litS t e n parts i j out ho hi hd hj hl hb=>simp only [ho,cls] at hc;split at hc<;>cases hc
 |litW t e n parts i j out ho hn hi hd hj hl hb=>simp [ho,cls,hn] at hc
 |appR x v t tx out ho h hs=>simp [ho,cls,clsB] at hc
theorem loadBox_congr {C:Cx} {op:Op} {g g':Nat→AVal} (h:∀ x∈op.operands,aEval C g x=aEval C g' x):loadBox C op g=loadBox C op g':=by
 cases op<;>try rfl
 case load t x=>simp only [loadBox,h x (by simp [Op.operands])]
 case convert t t2 x=>simp only [loadBox,h x (by simp [Op.operands])]
 case lookup t x y b=>simp only [loadBox,h x (by simp [Op.operands])]
def opAt (ops:Array Oper) (i:Nat):Oper:=(ops[i]?).getD default
def reachB (ops:Array Oper):Nat→Nat→Nat→Bool
 |0,_,_=>false
 |f+1,j,i=>(opAt ops i).after.any fun e=>Region.binds .any e&&(e.on==j||reachB ops f j e.on)
def stepM (l:List Edge) (L:List Nat) (n:Nat):Nat :=
 l.foldr (fun e m=>bif Region.binds .any e&&Nat.blt e.on n then m ||| 2 ^ e.on ||| L.getD (n-1-e.on) 0 else m) 0
def maskR (ops:Array Oper):Nat→List Nat
 |0=>[]
 |n+1=>stepM (opAt ops n).after.toList (maskR ops n) n::maskR ops n
def reachM (ops:Array Oper) (j i:Nat):Bool:=Nat.testBit (stepM (opAt ops i).after.toList (maskR ops i) i) j
theorem getD_maskR (ops:Array Oper):∀ n k:Nat,k<n→(maskR ops n).getD (n-1-k) 0=stepM (opAt ops k).after.toList (maskR ops k) k
 |n+1,k,h=>by
  rcases Nat.lt_or_ge k n with hk|hk
  ·rw [show n+1-1-k=(n-1-k)+1 by omega]
   simp only [maskR,List.getD_cons_succ]
   exact getD_maskR ops n k hk
  ·have e:k=n:=by omega
   subst e
   rw [show k+1-1-k=0 by omega]
   simp only [maskR,List.getD_cons_zero]
theorem stepM_bit (L:List Nat) (n j:Nat):∀ l:List Edge,(stepM l L n).testBit j=true→∃ e∈l,Region.binds .any e=true∧e.on<n∧(e.on=j∨(L.getD (n-1-e.on) 0).testBit j=true)
 |[],h=>by simp [stepM] at h
 |e::l,h=>by
  have hs:stepM (e::l) L n=(bif Region.binds .any e&&Nat.blt e.on n then stepM l L n ||| 2 ^ e.on ||| L.getD (n-1-e.on) 0 else stepM l L n):=rfl
  rw [hs] at h
  cases hb:(Region.binds .any e&&Nat.blt e.on n) with
  |false =>
   rw [hb] at h
   obtain ⟨x,hx,h⟩:=stepM_bit L n j l h
   exact ⟨x,List.mem_cons_of_mem _ hx,h⟩
  |true =>
   rw [hb,cond_true,Nat.testBit_or,Nat.testBit_or,Nat.testBit_two_pow,Bool.or_eq_true,Bool.or_eq_true] at h
   rw [Bool.and_eq_true,Nat.blt_eq] at hb
   rcases h with (h|h)|h
   ·obtain ⟨x,hx,h⟩:=stepM_bit L n j l h
    exact ⟨x,List.mem_cons_of_mem _ hx,h⟩
   ·exact ⟨e,List.mem_cons_self ..,hb.1,hb.2,.inl (of_decide_eq_true h)⟩
   ·exact ⟨e,List.mem_cons_self ..,hb.1,hb.2,.inr h⟩
theorem reachB_mono (ops:Array Oper):∀ (f g j i:Nat),f≤g→reachB ops f j i=true→reachB ops g j i=true
 |0,_,_,_,_,h=>by cases h
 |f+1,0,_,_,hg,_=>by omega
 |f+1,g+1,j,i,hg,h=>by
  simp only [reachB,Array.any_eq_true',Bool.and_eq_true,Bool.or_eq_true] at h ⊢
  obtain ⟨e,he,hb,h⟩:=h
  exact ⟨e,he,hb,h.imp_right (reachB_mono ops f g j e.on (by omega))⟩
theorem reachM_ok (ops:Array Oper) (j:Nat):∀ i:Nat,reachM ops j i=true→reachB ops (i+1) j i=true:=by
 intro i
 induction i using Nat.strongRecOn with
 |ind i ih =>
  intro h
  obtain ⟨e,he,hb,hlt,h⟩:=stepM_bit _ _ _ _ h
  simp only [reachB,Array.any_eq_true',Bool.and_eq_true,Bool.or_eq_true,beq_iff_eq]
  refine ⟨e,Array.mem_toList_iff.1 he,hb,h.imp_right fun h=>?_⟩
  rw [getD_maskR ops i e.on hlt] at h
  exact reachB_mono ops _ _ _ _ hlt (ih e.on hlt h)
def okR (C:Cx) (f:Option UL) (ops:Array Oper):Bool :=
 (List.range ops.size).all fun i=>((opAt ops i).after.all fun e => !Region.binds .any e||decide (e.on<i)) &&
  (List.range i).all fun j=>reachM ops j i||indepB C f ops (opAt ops j) (opAt ops i)
section
variable {C:Cx} {ops:Array Oper} {N:Nat} {m:Md}
theorem upd_comm (g:Nat→AVal) {d1 d2:Option Nat} (v1 v2:AVal) (h:∀ d,d1=some d→d2≠some d):upd (upd g d1 v1) d2 v2=upd (upd g d2 v2) d1 v1:=by
 cases d1 with
 |none=>rfl
 |some a =>
  cases d2 with
  |none=>rfl
  |some b =>
   have hne:a≠b:=fun e=>h a rfl (by rw [e])
   funext t
   simp only [upd]
   by_cases e1:t=b
   ·subst e1;rw [if_pos rfl,if_neg (Ne.symm hne),if_pos rfl]
   ·rw [if_neg e1,if_neg e1]
theorem aEval_upd {g:Nat→AVal} {d:Option Nat} {v:AVal} {y:Oper} (h:∀ k,d=some k→k ∉ y.looksAt ops):∀ x∈y.op.operands,aEval C (upd g d v) x=aEval C g x:=by
 intro x hx
 refine aEval_congr fun t ht=>?_
 cases d with
 |none=>rfl
 |some k =>
  have:t≠k:=fun e=>h k rfl (by
   subst e;subst ht
   simp only [Oper.looksAt,List.mem_append,List.mem_filterMap]
   exact .inl ⟨.tmp t,Array.mem_toList_iff.2 hx,rfl⟩)
  simp only [upd,if_neg this]
theorem wantedA_upd {g:Nat→AVal} {d:Option Nat} {v:AVal} {y:Oper} (h:∀ k,d=some k→k ∉ y.looksAt ops):wantedA ops y (upd g d v)=wantedA ops y g:=by
 unfold wantedA
 cases hg:y.guard with
 |none=>rfl
 |some jw =>
  obtain ⟨j,w⟩:=jw
  simp only
  cases hd:(ops[j]?).bind (·.dst) with
  |none=>rfl
  |some s =>
   simp only
   cases d with
   |none=>rfl
   |some k =>
    have:s≠k:=fun e=>h k rfl (by subst e;simp [Oper.looksAt,hg,hd])
    simp only [upd,if_neg this]
theorem BOk.congr {o:Oper} {g g':Nat→AVal} {S S':St} {r:AVal} (h:BOk C m o g S r S') (hg:∀ x∈o.op.operands,aEval C g x=aEval C g' x):BOk C m o g' S r S':=by
 cases m with
 |none=>trivial
 |some BH =>
  obtain ⟨U,B,H⟩:=BH
  obtain ⟨h1,h2,h3,h4,h5⟩:=h
  refine ⟨fun b hb=>h1 b (by rw [loadBox_congr hg];exact hb),h2,fun hc=>?_,fun hc=>⟨(h4 hc).1,fun L hL=>((h4 hc).2 L hL).frame hg⟩,fun hu hi=>?_⟩
  rotate_left
  ·obtain ⟨t,m,k,v,b,es,c,q1,q2,q3⟩:=h5 hu hi
   exact ⟨t,m,k,v,b,es,c,q1,by rw [← hg m (by rw [q1];simp [Op.operands])];exact q2,q3⟩
  obtain ⟨k,x,e1,e2,e3,e4,e5⟩:=h3 hc
  exact ⟨k,x,e1,e2,e3,e4,fun U hU=>(e5 U hU).frame hg⟩
theorem hole_ne {S:St} {k b:Nat} {x:ABox} (hx:x ≠ .hole) (hk:S[k]? = some .hole) (hb:(S.set k x)[b]? = S[b]?):b≠k:=by
 rintro rfl
 rw [List.getElem?_set_self (List.getElem?_eq_some_iff.1 hk).1,hk] at hb
 injection hb with hb
 exact hx hb
theorem set_keep {S S':St} {k b:Nat} {x:ABox} (hk:S[k]? = some .hole) (hk':S'[k]? = some .hole) (h:S'[b]? = S[b]?):(S'.set k x)[b]? = (S.set k x)[b]?:=by
 by_cases e:k=b
 ·subst e
  rw [List.getElem?_set_self (List.getElem?_eq_some_iff.1 hk').1,List.getElem?_set_self (List.getElem?_eq_some_iff.1 hk).1]
 ·rw [List.getElem?_set_ne e,List.getElem?_set_ne e,h]
theorem BOk.same {o:Oper} {g:Nat→AVal} {S S':St} {r:AVal} (h:BOk C m o g S r S') (hc:cls C o.op=0∨cls C o.op=1) (U:St):BOk C m o g U r U:=by
 cases m with
 |none=>trivial
 |some BH =>
  refine ⟨h.1,fun _ _ _=>rfl,?_,?_,?_⟩
  ·intro e
   rcases hc with hc|hc<;>rw [hc] at e<;>cases e
  ·intro e
   rcases hc with hc|hc<;>rw [hc] at e<;>cases e
  ·intro _ e
   have e:=isIns_cls (C:=C) e
   rcases hc with hc|hc<;>rw [hc] at e<;>cases e
theorem fill_get {b:Nat}:∀ (L:Holes) (S:St),(∀ e∈L,e.1≠b)→(fill S L)[b]? = S[b]?
 |[],_,_=>rfl
 |e::L,S,h=>by
  have:=fill_get (b:=b) L (S.set e.1 e.2) fun e he=>h e (List.mem_cons_of_mem _ he)
  rw [fill,this,List.getElem?_set_ne (h e (List.mem_cons_self ..))]
theorem fill_set {b:Nat} {x:ABox}:∀ (L:Holes) (S:St),(∀ e∈L,e.1≠b)→fill (S.set b x) L=(fill S L).set b x
 |[],_,_=>rfl
 |e::L,S,h=>by
  have:=fill_set (b:=b) (x:=x) L (S.set e.1 e.2) fun e he=>h e (List.mem_cons_of_mem _ he)
  rw [fill,fill,← this,List.set_comm _ _ (h e (List.mem_cons_self ..)).symm]
theorem ins_inv {o:Oper} {g:Nat→AVal} {S S':St} {r:AVal} {t:TypeId} {mm k v:Operand} {b c:Nat} {es:List (AVal × AVal)} (ho:o.op = .insert t mm k v) (hm:aEval C g mm = .map b) (hS:S[b]? = some (.mpx es c))
  (h:StepX C o g S r S'):∃ i kt et,C.T t=some i∧i.d = .map kt et∧keysOk C kt (aEval C g k) (tagE es)∧freshX (aEval C g k) es=true∧r = .raw undef∧S'=S.set b (.mpx (sins (aEval C g k) (aEval C g v) es) (c+1)):=by
 cases h with
 |step out h hs =>
  rw [ho] at h
  simp only [aStep] at h
  unfold aMapUpdate at h
  split at h
  ·cases h
  ·next i hi =>
   split at h
   ·next kt et hd =>
    rw [hm] at h
    simp only [hS,Option.some.injEq] at h
    subst h
    exact ⟨i,kt,et,hi,hd,hs.1,hs.2,rfl,rfl⟩
   ·cases h
 |call x xs ts f as bs r S' ho' hf h=>rw [ho] at ho';cases ho'
 |yield x xs ts i r S' ho' hf h=>rw [ho] at ho';cases ho'
 |fillA k t i ho' hi hk=>rw [ho] at ho';cases ho'
 |fillM k t ho' hk=>rw [ho] at ho';cases ho'
 |fillX k t ho' hk=>rw [ho] at ho';cases ho'
 |fillS k t e i j n m ho' hi hd hj hb hk=>rw [ho] at ho';cases ho'
 |rowS t e i j m ho' hi hd hj hb=>rw [ho] at ho';cases ho'
 |immS t e i j m ho' hi hd hj hb=>rw [ho] at ho';cases ho'
 |boxI t x ho' hs=>rw [ho] at ho';cases ho'
 |litS t e n parts i j out ho' hi hd hj hl hb=>rw [ho] at ho';cases ho'
 |litW t e n parts i j out ho' hn hi hd hj hl hb=>rw [ho] at ho';cases ho'
 |appR x v t tx out ho' h hs=>rw [ho] at ho';cases ho'
theorem ins_step {o:Oper} {g:Nat→AVal} {S:St} {t kt et:TypeId} {i:TI} {mm k v:Operand} {b c:Nat} {es:List (AVal × AVal)} (ho:o.op = .insert t mm k v) (hm:aEval C g mm = .map b) (hS:S[b]? = some (.mpx es c))
  (hi:C.T t=some i) (hd:i.d = .map kt et) (hk:keysOk C kt (aEval C g k) (tagE es)) (hf:freshX (aEval C g k) es=true) :
  StepX C o g S (.raw undef) (S.set b (.mpx (sins (aEval C g k) (aEval C g v) es) (c+1))):=by
 refine .step ⟨keysOk C kt (aEval C g k) (tagE es)∧freshX (aEval C g k) es=true,.raw undef,_⟩ ?_ ⟨hk,hf⟩
 rw [ho]
 simp only [aStep]
 unfold aMapUpdate
 simp only [hi,hd,hm,hS]
theorem ins_fill {o:Oper} {g:Nat→AVal} {S:St} {t kt et:TypeId} {i:TI} {mm k v:Operand} {b c:Nat} {es:List (AVal × AVal)} (ho:o.op = .insert t mm k v) (hm:aEval C g mm = .map b) (hS:S[b]? = some (.mpx es c))
  (hi:C.T t=some i) (hd:i.d = .map kt et) (hk:keysOk C kt (aEval C g k) (tagE es)) (hf:freshX (aEval C g k) es=true) (H:Holes) :
  (∀ e∈H,(S.set b (.mpx (sins (aEval C g k) (aEval C g v) es) (c+1)))[e.1]? = some .hole→S[e.1]? = some .hole) ∧
  ∀ L:Holes,(∀ e∈L,e∈H∧S[e.1]? = some .hole)→StepX C o g (fill S L) (.raw undef) (fill (S.set b (.mpx (sins (aEval C g k) (aEval C g v) es) (c+1))) L):=by
 refine ⟨fun e _ hh=>?_,fun L hL=>?_⟩
 ·by_cases e0:b=e.1
  ·rw [← e0,List.getElem?_set_self (List.getElem?_eq_some_iff.1 hS).1] at hh
   cases hh
  ·rwa [List.getElem?_set_ne e0] at hh
 ·have hne:∀ e∈L,e.1≠b:=by
   intro e he e0
   have:=(hL e he).2
   rw [e0,hS] at this
   cases this
  rw [fill_set L S hne]
  exact ins_step ho hm ((fill_get L S hne).trans hS) hi hd hk hf
theorem nblt_iff {a b:Nat}:Nat.blt a b=true↔a<b:=by simp [Nat.blt,Nat.succ_le_iff]
theorem sins_lt {k v k' v':AVal} (h:encN k<encN k'):∀ es,sins k v (sins k' v' es)=sins k' v' (sins k v es)
 |[]=>by
  have h1:Nat.blt (encN k) (encN k')=true:=nblt_iff.2 h
  have h2:Nat.blt (encN k') (encN k)=false:=by
   cases hb:Nat.blt (encN k') (encN k) with
   |false=>rfl
   |true=>have:=nblt_iff.1 hb;omega
  simp only [sins,h1,h2,cond_true,cond_false]
 |e::es=>by
  have ih:=sins_lt (v:=v) (v':=v') h es
  have h1:Nat.blt (encN k) (encN k')=true:=nblt_iff.2 h
  have h2:Nat.blt (encN k') (encN k)=false:=by
   cases hb:Nat.blt (encN k') (encN k) with
   |false=>rfl
   |true=>have:=nblt_iff.1 hb;omega
  cases hb:Nat.blt (encN k') (encN e.1) with
  |true =>
   have h3:Nat.blt (encN k) (encN e.1)=true:=nblt_iff.2 (by have:=nblt_iff.1 hb;omega)
   simp only [sins,hb,h1,h2,h3,cond_true,cond_false]
  |false =>
   cases ha:Nat.blt (encN k) (encN e.1) with
   |true=>simp only [sins,hb,ha,h2,cond_true,cond_false]
   |false=>simp only [sins,hb,ha,cond_false,ih]
theorem sins_comm {k v k' v':AVal} (h:encN k≠encN k') (es:List (AVal × AVal)):sins k v (sins k' v' es)=sins k' v' (sins k v es):=by
 rcases Nat.lt_or_gt_of_ne h with h|h
 ·exact sins_lt h es
 ·exact (sins_lt h es).symm
theorem fresh_sins {k k' v':AVal} {es:List (AVal × AVal)}:freshX k (sins k' v' es)=true↔encN k'≠encN k∧freshX k es=true:=by
 unfold freshX
 rw [List.all_eq_true,List.all_eq_true]
 have hmem:∀ e,e∈sins k' v' es↔e=(k',v')∨e∈es:=fun e=>by rw [(sins_perm k' v' es).mem_iff,List.mem_cons]
 constructor
 ·intro h
  refine ⟨fun e0=>?_,fun e he=>h e ((hmem e).2 (.inr he))⟩
  have:=h (k',v') ((hmem _).2 (.inl rfl))
  simp [e0] at this
 ·rintro ⟨h1,h2⟩ e he
  rcases (hmem e).1 he with rfl|he
  ·cases hb:Nat.beq (encN k') (encN k) with
   |false=>simp only [hb,Bool.not_false]
   |true=>exact absurd (Nat.eq_of_beq_eq_true hb) h1
  ·exact h2 e he
theorem keys_sins {kt:TypeId} {k k' v':AVal} {es:List (AVal × AVal)}:keysOk C kt k (tagE (sins k' v' es))↔keyFit C kt k'=true∧keysOk C kt k (tagE es):=by
 have hmem:∀ e:AVal × AVal,e∈sins k' v' es↔e=(k',v')∨e∈es:=fun e=>by rw [(sins_perm k' v' es).mem_iff,List.mem_cons]
 constructor
 ·rintro ⟨h1,h2⟩
  exact ⟨h2 (k',v',0) (List.mem_map.2 ⟨(k',v'),(hmem _).2 (.inl rfl),rfl⟩),h1,fun e he=>by
   obtain ⟨q,hq,rfl⟩:=List.mem_map.1 he
   exact h2 _ (List.mem_map.2 ⟨q,(hmem _).2 (.inr hq),rfl⟩)⟩
 ·rintro ⟨h1,h2,h3⟩
  refine ⟨h2,fun e he=>?_⟩
  obtain ⟨q,hq,rfl⟩:=List.mem_map.1 he
  rcases (hmem q).1 hq with rfl|hq
  ·exact h1
  ·exact h3 _ (List.mem_map.2 ⟨q,hq,rfl⟩)
theorem ins_swap {x y:Oper} {g:Nat→AVal} {S S1 S2:St} {r r2:AVal} {W:UL} {B:List (Option Nat × Nat)} {H:Holes}
  (hx:StepX C x g S r S1) (hbx:BOk C (some (W,B,H)) x g S r S1) (hy:StepX C y g S1 r2 S2) (hby:BOk C (some (W,B,H)) y g S1 r2 S2) (i12:sameIns x.op y.op=true) (hu:(none,none)∈W) :
  ∃ S3,(StepX C y g S r2 S3∧BOk C (some (W,B,H)) y g S r2 S3)∧StepX C x g S3 r S2∧BOk C (some (W,B,H)) x g S3 r S2:=by
 obtain ⟨i1,i2,heq⟩:=sameIns_ok i12
 obtain ⟨t1,m1,k1,v1,b1,es1,c1,o1,e1,s1⟩:=hbx.2.2.2.2 hu i1
 obtain ⟨t2,m2,k2,v2,b2,es2,c2,o2,e2,s2⟩:=hby.2.2.2.2 hu i2
 obtain ⟨ti1,kt1,et1,hi1,hd1,hk1,hf1,rfl,hS1⟩:=ins_inv o1 e1 s1 hx
 obtain ⟨ti2,kt2,et2,hi2,hd2,hk2,hf2,rfl,hS2⟩:=ins_inv o2 e2 s2 hy
 have hb1:=(List.getElem?_eq_some_iff.1 s1).1
 have nb1:∀ e∈B,(e.1,x.dst)∈W→b1≠e.2:=by
  intro e he hw e0
  have:=hbx.2.1 e he hw
  rw [← e0,hS1,List.getElem?_set_self hb1,s1] at this
  injection this with this
  injection this with _ this
  omega
 have nb2:∀ e∈B,(e.1,y.dst)∈W→b2≠e.2:=by
  intro e he hw e0
  have:=hby.2.1 e he hw
  rw [← e0,hS2,List.getElem?_set_self (List.getElem?_eq_some_iff.1 s2).1,s2] at this
  injection this with this
  injection this with _ this
  omega
 have n3:∀ {o:Oper},isIns o.op=true→∀ {p:Prop},cls C o.op=3→p:=fun hi _ h=>by rw [isIns_cls hi] at h;cases h
 by_cases eb:b1=b2
 ·subst eb
  rw [hS1,List.getElem?_set_self hb1] at s2
  injection s2 with s2
  injection s2 with q1 q2
  subst q1 q2
  obtain ⟨f1,f2⟩:=fresh_sins.1 hf2
  obtain ⟨_,g2⟩:=keys_sins.1 hk2
  have hS3:(S.set b1 (.mpx (sins (aEval C g k2) (aEval C g v2) es1) (c1+1)))[b1]? = some (.mpx (sins (aEval C g k2) (aEval C g v2) es1) (c1+1)):=List.getElem?_set_self hb1
  have hy3:=ins_step (v:=v2) o2 e2 s1 hi2 hd2 g2 f2
  have hf1':freshX (aEval C g k1) (sins (aEval C g k2) (aEval C g v2) es1)=true:=fresh_sins.2 ⟨Ne.symm f1,hf1⟩
  have hkk:keyFit C kt1 (aEval C g k2)=true:=by
   obtain rfl:=heq o1 o2
   rw [hi1] at hi2
   injection hi2 with hi2
   subst hi2
   rw [hd1] at hd2
   injection hd2 with hd2
   rw [hd2]
   exact hk2.1
  have hk1':keysOk C kt1 (aEval C g k1) (tagE (sins (aEval C g k2) (aEval C g v2) es1)):=keys_sins.2 ⟨hkk,hk1⟩
  have hx3:=ins_step (v:=v1) o1 e1 hS3 hi1 hd1 hk1' hf1'
  have hfin:(S.set b1 (.mpx (sins (aEval C g k2) (aEval C g v2) es1) (c1+1))).set b1 (.mpx (sins (aEval C g k1) (aEval C g v1) (sins (aEval C g k2) (aEval C g v2) es1)) (c1+1+1))=S2:=by
   rw [hS2,hS1,List.set_set,List.set_set,sins_comm f1]
  rw [hfin] at hx3
  have hfl:=ins_fill (v:=v1) o1 e1 hS3 hi1 hd1 hk1' hf1' H
  rw [hfin] at hfl
  refine ⟨_,⟨hy3,hby.1,fun e he hw=>List.getElem?_set_ne (nb2 e he hw),n3 i2,fun _=>ins_fill (v:=v2) o2 e2 s1 hi2 hd2 g2 f2 H,fun _ _=>⟨t2,m2,k2,v2,b1,es1,c1,o2,e2,s1⟩⟩,
   hx3,hbx.1,fun e he hw=>?_,n3 i1,fun _=>hfl,fun _ _=>⟨t1,m1,k1,v1,b1,_,_,o1,e1,hS3⟩⟩
  rw [← hfin]
  exact List.getElem?_set_ne (nb1 e he hw)
 ·have s2':S[b2]? = some (.mpx es2 c2):=by rw [hS1,List.getElem?_set_ne eb] at s2;exact s2
  have hS3:(S.set b2 (.mpx (sins (aEval C g k2) (aEval C g v2) es2) (c2+1)))[b1]? = some (.mpx es1 c1):=(List.getElem?_set_ne (Ne.symm eb)).trans s1
  have hy3:=ins_step (v:=v2) o2 e2 s2' hi2 hd2 hk2 hf2
  have hx3:=ins_step (v:=v1) o1 e1 hS3 hi1 hd1 hk1 hf1
  have hfin:(S.set b2 (.mpx (sins (aEval C g k2) (aEval C g v2) es2) (c2+1))).set b1 (.mpx (sins (aEval C g k1) (aEval C g v1) es1) (c1+1))=S2:=by
   rw [hS2,hS1,List.set_comm _ _ (Ne.symm eb)]
  rw [hfin] at hx3
  have hfl:=ins_fill (v:=v1) o1 e1 hS3 hi1 hd1 hk1 hf1 H
  rw [hfin] at hfl
  refine ⟨_,⟨hy3,hby.1,fun e he hw=>List.getElem?_set_ne (nb2 e he hw),n3 i2,fun _=>ins_fill (v:=v2) o2 e2 s2' hi2 hd2 hk2 hf2 H,fun _ _=>⟨t2,m2,k2,v2,b2,es2,c2,o2,e2,s2'⟩⟩,
   hx3,hbx.1,fun e he hw=>?_,n3 i1,fun _=>hfl,fun _ _=>⟨t1,m1,k1,v1,b1,_,_,o1,e1,hS3⟩⟩
  rw [← hfin]
  exact List.getElem?_set_ne (nb1 e he hw)
theorem step_swap {x y:Oper} {g:Nat→AVal} {S S1 S2:St} {r r2:AVal} (hcl:((cls C x.op=0∨cls C y.op=0)∨(cls C x.op=1∧cls C y.op=1))∨swapC C (m.map (·.1)) x y=true)
  (hx:StepX C x g S r S1) (hbx:BOk C m x g S r S1) (hy:StepX C y g S1 r2 S2) (hby:BOk C m y g S1 r2 S2) :
  ∃ S3,(StepX C y g S r2 S3∧BOk C m y g S r2 S3)∧StepX C x g S3 r S2∧BOk C m x g S3 r S2:=by
 by_cases x0:cls C x.op=0
 ·obtain ⟨e,hall⟩:=hx.pure x0
  subst e
  exact ⟨S2,⟨hy,hby⟩,hall S2,hbx.same (.inl x0) _⟩
 by_cases y0:cls C y.op=0
 ·obtain ⟨e,hall⟩:=hy.pure y0
  subst e
  exact ⟨S,⟨hall S,hby.same (.inl y0) _⟩,hx,hbx⟩
 rcases hcl with ((h|h)|⟨x1,y1⟩)|hsw
 ·exact absurd h x0
 ·exact absurd h y0
 ·have e1:=hx.reads x1
  subst e1
  have e2:=hy.reads y1
  subst e2
  exact ⟨_,⟨hy,hby⟩,hx,hbx⟩
 cases m with
 |none=>cases hsw
 |some BH =>
  obtain ⟨W,B,H⟩:=BH
  simp only [swapC,Option.map_some,Bool.or_eq_true,Bool.and_eq_true] at hsw
  rcases hsw with ((⟨h1,hu⟩|⟨h1,hu⟩)|⟨h3,hx23⟩)|⟨i12,hu⟩
  rotate_left 3
  ·exact ins_swap hx hbx hy hby i12 (inU_ok hu)
  ·have x1:=Nat.eq_of_beq_eq_true h1
   have e1:=hx.reads x1
   subst e1
   exact ⟨S2,⟨hy,hby⟩,hx.move1 x1 (fun b hb=>hby.2.1 _ (hbx.1 b hb) (inU_ok hu)),hbx.same (.inr x1) _⟩
  ·have y1:=Nat.eq_of_beq_eq_true h1
   have e2:=hy.reads y1
   subst e2
   exact ⟨S,⟨hy.move1 y1 (fun b hb=>(hbx.2.1 _ (hby.1 b hb) (inU_ok hu)).symm),hby.same (.inr y1) _⟩,hx,hbx⟩
  ·have y3:=Nat.eq_of_beq_eq_true h3
   obtain ⟨k,bx,k1,k2,k3,rfl,k5⟩:=hby.2.2.1 y3
   rcases hx23 with x2|x3
   ·replace x2:=Nat.eq_of_beq_eq_true x2
    obtain ⟨q1,q2⟩:=hbx.2.2.2.1 x2
    have hSk:S[k]? = some .hole:=q1 _ k1 k3
    refine ⟨S.set k bx,⟨k5 S hSk,hby.1,fun b hb hu=>?_,fun _=>⟨k,bx,k1,k2,hSk,rfl,k5⟩,fun h=>(by rw [y3] at h;cases h),fun _ h=>(by rw [isIns_cls h] at y3;cases y3)⟩,?_,hbx.1,fun b hb hu=>set_keep hSk k3 (hbx.2.1 b hb hu),fun h=>(by rw [x2] at h;cases h),fun _=>⟨fun e he hh=>?_,fun L hL=>?_⟩,fun hu hi=>?_⟩
    rotate_right
    ·obtain ⟨t,m,kk,v,b,es,c,p1,p2,p3⟩:=hbx.2.2.2.2 hu hi
     have hne:k≠b:=by
      rintro rfl
      rw [hSk] at p3
      cases p3
     exact ⟨t,m,kk,v,b,es,c,p1,p2,(List.getElem?_set_ne hne).trans p3⟩
    ·exact List.getElem?_set_ne (Ne.symm (hole_ne k2 k3 (hby.2.1 b hb hu)))
    ·exact q2 [(k,bx)] (fun e he=>by rw [List.mem_singleton] at he;subst he;exact ⟨k1,hSk⟩)
    ·have hne:k≠e.1:=by
      intro e0
      rw [← e0,List.getElem?_set_self (List.getElem?_eq_some_iff.1 k3).1] at hh
      injection hh with hh
      exact k2 hh
     rw [List.getElem?_set_ne hne] at hh ⊢
     exact q1 e he hh
    ·refine q2 ((k,bx)::L) (fun e he=>?_)
     rcases List.mem_cons.1 he with rfl|he
     ·exact ⟨k1,hSk⟩
     ·obtain ⟨e1,e2⟩:=hL e he
      refine ⟨e1,?_⟩
      have hne:k≠e.1:=by
       rintro rfl
       rw [List.getElem?_set_self (List.getElem?_eq_some_iff.1 hSk).1] at e2
       injection e2 with e2
       exact k2 e2
      rwa [List.getElem?_set_ne hne] at e2
   ·replace x3:=Nat.eq_of_beq_eq_true x3
    obtain ⟨j,bj,j1,j2,j3,rfl,j5⟩:=hbx.2.2.1 x3
    have hne:j≠k:=by
     rintro rfl
     rw [List.getElem?_set_self (List.getElem?_eq_some_iff.1 j3).1] at k3
     injection k3 with k3
     exact j2 k3
    have hSk:S[k]? = some .hole:=by rwa [List.getElem?_set_ne hne] at k3
    have hSj:(S.set k bx)[j]? = some .hole:=by rw [List.getElem?_set_ne (Ne.symm hne)];exact j3
    have hcomm:(S.set k bx).set j bj=(S.set j bj).set k bx:=List.set_comm _ _ (Ne.symm hne)
    refine ⟨S.set k bx,⟨k5 S hSk,hby.1,fun b hb hu=>?_,fun _=>⟨k,bx,k1,k2,hSk,rfl,k5⟩,fun h=>(by rw [y3] at h;cases h),fun _ h=>(by rw [isIns_cls h] at y3;cases y3)⟩,?_,hbx.1,fun b hb hu=>?_,fun _=>⟨j,bj,j1,j2,hSj,hcomm.symm,j5⟩,fun h=>(by rw [x3] at h;cases h),fun _ h=>(by rw [isIns_cls h] at x3;cases x3)⟩
    ·exact List.getElem?_set_ne (Ne.symm (hole_ne k2 k3 (hby.2.1 b hb hu)))
    ·rw [← hcomm];exact j5 _ hSj
    ·rw [← hcomm]
     exact List.getElem?_set_ne (Ne.symm (hole_ne j2 j3 (hbx.2.1 b hb hu)))
theorem ARun.swap {x y:Oper} {l:List Oper} {g g':Nat→AVal} {S S':St} (hi:indepB C (m.map (·.1)) ops x y=true) (h:ARun C ops N m (x::y::l) g S g' S'):ARun C ops N m (y::x::l) g S g' S':=by
 simp only [indepB,Bool.and_eq_true,Bool.or_eq_true,beq_iff_eq] at hi
 obtain ⟨hap,hcl⟩:=hi
 obtain ⟨a1,a2,a3⟩:=Oper.apart_spec hap
 cases h with
 |run _ _ _ _ r S1 _ _ hw hd hx hbx t =>
  cases t with
  |run _ _ _ _ r2 S2 _ _ hw2 hd2 hy hby t2 =>
   rw [wantedA_upd a1] at hw2
   obtain ⟨S3,⟨k1,k1b⟩,k2,k2b⟩:=step_swap hcl hx hbx (hy.frame (aEval_upd a1)) (hby.congr (aEval_upd a1))
   refine .run y _ g S r2 S3 _ _ hw2 hd2 k1 k1b (.run x _ _ S3 r S2 _ _ (by rw [wantedA_upd a3];exact hw) hd (k2.frame fun z hz=>(aEval_upd a3 z hz).symm) (k2b.congr fun z hz=>(aEval_upd a3 z hz).symm) ?_)
   rw [← upd_comm g r r2 a2]
   exact t2
  |skip _ _ _ _ _ _ hw2 hd2 t2 =>
   rw [wantedA_upd a1] at hw2
   refine .skip y _ g S _ _ hw2 hd2 (.run x _ _ S r S1 _ _ (by rw [wantedA_upd a3];exact hw) hd (hx.frame fun z hz=>(aEval_upd a3 z hz).symm) (hbx.congr fun z hz=>(aEval_upd a3 z hz).symm) ?_)
   rw [← upd_comm g r (.raw undef) a2]
   exact t2
 |skip _ _ _ _ _ _ hw hd t =>
  cases t with
  |run _ _ _ _ r2 S2 _ _ hw2 hd2 hy hby t2 =>
   rw [wantedA_upd a1] at hw2
   refine .run y _ g S r2 S2 _ _ hw2 hd2 (hy.frame (aEval_upd a1)) (hby.congr (aEval_upd a1)) (.skip x _ _ S2 _ _ (by rw [wantedA_upd a3];exact hw) hd ?_)
   rw [← upd_comm g (.raw undef) r2 a2]
   exact t2
  |skip _ _ _ _ _ _ hw2 hd2 t2 =>
   rw [wantedA_upd a1] at hw2
   refine .skip y _ g S _ _ hw2 hd2 (.skip x _ _ S _ _ (by rw [wantedA_upd a3];exact hw) hd ?_)
   rw [← upd_comm g (.raw undef) (.raw undef) a2]
   exact t2
theorem ARun.front {i:Nat} {post:List Nat}:∀ (pre:List Nat) {g g':Nat→AVal} {S S':St},(∀ j∈pre,indepB C (m.map (·.1)) ops (opAt ops j) (opAt ops i)=true)→ARun C ops N m ((pre++i::post).map (opAt ops)) g S g' S' →
  ARun C ops N m ((i::(pre++post)).map (opAt ops)) g S g' S':=by
 intro pre
 induction pre with
 |nil=>intro g g' S S' _ h;exact h
 |cons p pre ih =>
  intro g g' S S' hall h
  simp only [List.cons_append,List.map_cons] at h ⊢
  refine ARun.swap (hall p (List.mem_cons_self ..)) ?_
  have hall':∀ j∈pre,indepB C (m.map (·.1)) ops (opAt ops j) (opAt ops i)=true:=fun j hj=>hall j (List.mem_cons_of_mem _ hj)
  cases h with
  |run _ _ _ _ r S1 _ _ hw hd hx hbx t=>exact .run _ _ _ _ r S1 _ _ hw hd hx hbx (ih hall' t)
  |skip _ _ _ _ _ _ hw hd t=>exact .skip _ _ _ _ _ _ hw hd (ih hall' t)
structure Inv (ops:Array Oper) (listed:Array Bool) (rem:List Nat):Prop where
 size:listed.size=ops.size
 sorted:rem.Pairwise (·< ·)
 mem:∀ i,i∈rem↔listed[i]? = some false
 down:∀ k,listed[k]? = some true→∀ e∈(opAt ops k).after.toList,Region.binds .any e=true→listed[e.on]? = some true
theorem reach_listed {listed:Array Bool} (hdown:∀ k,listed[k]? = some true→∀ e∈(opAt ops k).after.toList,Region.binds .any e=true→listed[e.on]? = some true) {j:Nat} :
  ∀ (f i:Nat),(∀ e∈(opAt ops i).after.toList,Region.binds .any e=true→listed[e.on]? = some true)→reachB ops f j i=true→listed[j]? = some true:=by
 intro f
 induction f with
 |zero=>intro i _ h;simp [reachB] at h
 |succ f ih =>
  intro i hi h
  simp only [reachB,Array.any_eq_true',Bool.and_eq_true,Bool.or_eq_true,beq_iff_eq] at h
  obtain ⟨e,he,hb,h⟩:=h
  have hl:=hi e (Array.mem_toList_iff.2 he) hb
  rcases h with h|h
  ·rw [← h];exact hl
  ·exact ih e.on (hdown _ hl) h
theorem any_of_run (hC:C.Ok) (hok:okR C (m.map (·.1)) ops=true) {g':Nat→AVal} {S':St}:∀ (fuel:Nat) (listed:Array Bool) (rem:List Nat) (g:Nat→AVal) (S:St),Inv ops listed rem→rem.length≤fuel→ARun C ops N m (rem.map (opAt ops)) g S g' S' →
  ∀ (F:Fence) (n:Nat),FW F→∀ (E:Env) (a:Act),Wf C.G E→E.S=S→RF E N g a→∀ (Q:Exit→Act→World→Prop),(∀ E' a',Ext E E'→Wf C.G E'→E'.S=S'→RF E' N g' a'→Q .normal a' E'.w) →
   wpAnyIn F n C.P .any ops Q fuel listed a E.w:=by
 intro fuel
 have hback:∀ i,i<ops.size→(∀ e∈(opAt ops i).after.toList,Region.binds .any e=true→e.on<i)∧∀ j,j<i→indepB C (m.map (·.1)) ops (opAt ops j) (opAt ops i)=true∨reachB ops ops.size j i=true:=by
  intro i hi
  simp only [okR,List.all_eq_true,List.mem_range,Bool.and_eq_true,Bool.or_eq_true,Array.all_eq_true',Bool.not_eq_true',decide_eq_true_eq] at hok
  obtain ⟨h1,h2⟩:=hok i hi
  refine ⟨fun e he hb=>?_,fun j hj=>(h2 j hj).symm.imp_right fun h=>reachB_mono ops _ _ _ _ hi (reachM_ok ops j i h)⟩
  rcases h1 e (Array.mem_toList_iff.1 he) with h|h
  ·rw [hb] at h;cases h
  ·exact h
 induction fuel with
 |zero =>
  intro listed rem g S hI hlen hrun F n hF E a hE hS hr Q hQ
  have:rem=[]:=List.eq_nil_of_length_eq_zero (by omega)
  subst this
  simp only [List.map_nil] at hrun
  cases hrun
  refine ⟨?_,hQ E a (Ext.refl E) hE hS hr⟩
  rw [List.eq_nil_iff_forall_not_mem]
  intro i hi
  simp only [Region.ready,List.mem_filter,List.mem_range,Bool.and_eq_true,Bool.not_eq_true'] at hi
  obtain ⟨h1,h2,_⟩:=hi
  have:listed[i]? = some false:=by
   have hlt:i<listed.size:=by rw [hI.size];exact h1
   rw [Array.getElem?_eq_getElem hlt]
   simp only [Array.getD,hlt,dite_true] at h2
   exact congrArg some h2
  exact absurd ((hI.mem i).2 this) (by simp)
 |succ fuel ih =>
  intro listed rem g S hI hlen hrun F n hF E a hE hS hr Q hQ
  have ready_mem:∀ i,i∈Region.ready .any ops listed↔i∈rem∧∀ e∈(opAt ops i).after.toList,Region.binds .any e=true→listed[e.on]? = some true:=by
   intro i
   simp only [Region.ready,List.mem_filter,List.mem_range,Bool.and_eq_true,Bool.not_eq_true',hI.mem]
   constructor
   ·rintro ⟨h1,h2,h3⟩
    have hlt:i<listed.size:=by rw [hI.size];exact h1
    refine ⟨?_,fun e he hb=>?_⟩
    ·rw [Array.getElem?_eq_getElem hlt]
     simp only [Array.getD,hlt,dite_true] at h2
     exact congrArg some h2
    ·rw [Array.getElem?_eq_getElem h1] at h3
     simp only [Option.map_some,Option.getD_some,Array.all_eq_true',Bool.or_eq_true,Bool.not_eq_true'] at h3
     have he':e∈ops[i].after:=by
      have:opAt ops i=ops[i]:=by simp [opAt,Array.getElem?_eq_getElem h1]
      rw [this] at he;exact Array.mem_toList_iff.1 he
     rcases h3 e he' with h|h
     ·rw [hb] at h;cases h
     ·rw [Array.getD_eq_getD_getElem?] at h
      rcases hx:listed[e.on]? with _|b
      ·rw [hx] at h;cases h
      ·rw [hx] at h;simp only [Option.getD_some] at h;rw [h]
   ·rintro ⟨h1,h2⟩
    have hlt:i<listed.size:=by
     rcases Nat.lt_or_ge i listed.size with h|h
     ·exact h
     ·rw [Array.getElem?_eq_none h] at h1;cases h1
    have hlo:i<ops.size:=by rw [← hI.size];exact hlt
    refine ⟨hlo,?_,?_⟩
    ·rw [Array.getD_eq_getD_getElem?,h1];rfl
    ·rw [Array.getElem?_eq_getElem hlo]
     simp only [Option.map_some,Option.getD_some,Array.all_eq_true',Bool.or_eq_true,Bool.not_eq_true']
     intro e he
     cases hb:Region.binds .any e with
     |false=>exact .inl rfl
     |true =>
      have he':e∈(opAt ops i).after.toList:=by
       have:opAt ops i=ops[i]:=by simp [opAt,Array.getElem?_eq_getElem hlo]
       rw [this];exact Array.mem_toList_iff.2 he
      right
      rw [Array.getD_eq_getD_getElem?,h2 e he' hb];rfl
  have lt_of:∀ i,i∈rem→i<ops.size:=fun i hi=>by
   have:=(hI.mem i).1 hi
   rw [← hI.size]
   rcases Nat.lt_or_ge i listed.size with h|h
   ·exact h
   ·rw [Array.getElem?_eq_none h] at this;cases this
  refine ⟨fun hnone=>?_,fun i hi=>?_⟩
  ·
   have:rem=[]:=by
    match rem,hI,ready_mem,lt_of with
    |[],_,_,_=>rfl
    |i::rest,hI,ready_mem,lt_of =>
     exfalso
     have hm:i∈Region.ready .any ops listed:=(ready_mem i).2 ⟨List.mem_cons_self ..,fun e he hb=>by
      have hlt:=(hback i (lt_of i (List.mem_cons_self ..))).1 e he hb
      have hls:e.on<listed.size:=by rw [hI.size];have:=lt_of i (List.mem_cons_self ..);omega
      rw [Array.getElem?_eq_getElem hls]
      cases hv:listed[e.on] with
      |true=>rfl
      |false =>
       have:e.on∈i::rest:=(hI.mem e.on).2 (by rw [Array.getElem?_eq_getElem hls,hv])
       rcases List.mem_cons.1 this with h|h
       ·omega
       ·have:=(List.pairwise_cons.1 hI.sorted).1 _ h;omega⟩
     rw [hnone] at hm;cases hm
   subst this
   simp only [List.map_nil] at hrun
   cases hrun
   exact hQ E a (Ext.refl E) hE hS hr
  ·obtain ⟨hir,hedges⟩:=(ready_mem i).1 hi
   obtain ⟨pre,post,rfl⟩:=List.append_of_mem hir
   have hsort:=List.pairwise_append.1 hI.sorted
   have hind:∀ j∈pre,indepB C (m.map (·.1)) ops (opAt ops j) (opAt ops i)=true:=by
    intro j hj
    have hlt:j<i:=hsort.2.2 j hj i (List.mem_cons_self ..)
    rcases (hback i (lt_of i hir)).2 j hlt with h|h
    ·exact h
    ·have h1:=reach_listed hI.down ops.size i hedges h
     have h2:=(hI.mem j).1 (List.mem_append_left _ hj)
     rw [h1] at h2;cases h2
   have hrun':=ARun.front pre hind hrun
   have hio:=lt_of i hir
   have hopi:ops[i]? = some (opAt ops i):=by simp [opAt,Array.getElem?_eq_getElem hio]
   have hls:i<listed.size:=by rw [hI.size];exact hio
   have hI':Inv ops (listed.setIfInBounds i true) (pre++post):=by
    refine ⟨by simp [hI.size],?_,fun k=>?_,fun k hk e he hb=>?_⟩
    ·refine List.pairwise_append.2 ⟨hsort.1,(List.pairwise_cons.1 hsort.2.1).2,fun x hx y hy=>hsort.2.2 x hx y (List.mem_cons_of_mem _ hy)⟩
    ·by_cases e:i=k
     ·subst e
      have hno:i ∉ pre++post:=by
       intro hm
       rcases List.mem_append.1 hm with h|h
       ·have:=hsort.2.2 i h i (List.mem_cons_self ..);omega
       ·have:=(List.pairwise_cons.1 hsort.2.1).1 i h;omega
      rw [Array.getElem?_setIfInBounds_self_of_lt hls]
      simp [hno]
     ·rw [Array.getElem?_setIfInBounds_ne e,← hI.mem]
      simp only [List.mem_append,List.mem_cons]
      constructor
      ·rintro (h|h)
       ·exact .inl h
       ·exact .inr (.inr h)
      ·rintro (h|h|h)
       ·exact .inl h
       ·exact absurd h.symm e
       ·exact .inr h
    ·have hon:listed[e.on]? = some true:=by
      by_cases ek:i=k
      ·subst ek;exact hedges e he hb
      ·rw [Array.getElem?_setIfInBounds_ne ek] at hk
       exact hI.down k hk e he hb
     by_cases ek:i=e.on
     ·rw [← ek,Array.getElem?_setIfInBounds_self_of_lt hls]
     ·rw [Array.getElem?_setIfInBounds_ne ek];exact hon
   have hlen':(pre++post).length≤fuel:=by simp at hlen ⊢;omega
   unfold wpOpIn
   rw [hopi]
   simp only [List.map_cons] at hrun'
   cases hrun' with
   |run _ _ _ _ r S1 _ _ hw hd hx hbx t =>
    simp only
    rw [if_pos (wantedA_ok hr hw)]
    refine hx.ok hC F n hF E N a hE hS hr _ _ fun E' x hxt hE' hS' hr'=>?_
    exact ih _ _ _ S1 hI' hlen' t F n hF E' _ hE' hS' ((hr.ext hE hxt).put hd hr') Q fun E2 a2 k1 k2 k3 k4=>hQ E2 a2 (hxt.trans hE k1) k2 k3 k4
   |skip _ _ _ _ _ _ hw hd t =>
    simp only
    rw [if_neg (by rw [wantedA_ok hr hw];simp)]
    exact ⟨fun f _=>hF.fn f,ih _ _ _ S hI' hlen' t F n hF E _ hE hS (hr.put hd (.raw _)) Q hQ⟩
theorem region_ok (hC:C.Ok) {id:Nat} {draw:Bool} (hok:draw=true→okR C (m.map (·.1)) ops=true) {g g':Nat→AVal} {S S':St} (h:ARun C ops N m ops.toList g S g' S') (F:Fence) (n:Nat) (hF:FW F) (E:Env) (a:Act) (hE:Wf C.G E) (hS:E.S=S)
  (hr:RF E N g a) (Q:Exit→Act→World→Prop) (hQ:∀ E' a',Ext E E'→Wf C.G E'→E'.S=S'→RF E' N g' a'→Q .normal a' E'.w):(Code.region id ops draw).wpIn F n C.P Q a E.w:=by
 have hl:ops.toList=(List.range ops.size).map (opAt ops):=by
  apply List.ext_getElem (by simp)
  intro i h1 h2
  have h3:i<ops.size:=by simpa using h1
  simp [opAt,Array.getElem?_eq_getElem h3]
 cases draw with
 |false =>
  refine wpIn_region (h.sound hC (List.range ops.size) ?_ F n hF E a hE hS hr Q hQ)
  apply List.ext_getElem (by simp)
  intro i h1 h2
  have h3:i<ops.size:=by simpa using h1
  simp [Array.getElem?_eq_getElem h3]
 |true =>
  refine wpIn_region_any hC.mixed ?_
  obtain ⟨k1,k2⟩:=env_grown hE (w':={ E.w with drawn:=E.w.drawn+1 }) ⟨rfl,rfl,rfl,Nat.le_refl _,fun _ _ _=>rfl⟩
  refine any_of_run hC (hok rfl) ops.size _ (List.range ops.size) g S ⟨by simp,List.pairwise_lt_range,fun i=>?_,fun k hk=>?_⟩ (by simp) (hl▸h) F n hF { E with w:={ E.w with drawn:=E.w.drawn+1 } } a k2 hS (hr.ext hE k1) Q
   (fun E2 a2 e1 e2 e3 e4=>hQ E2 a2 (k1.trans hE e1) e2 e3 e4)
  ·simp [Array.getElem?_replicate]
  ·simp [Array.getElem?_replicate] at hk
end
end
end Go.Am
