/- A range over all realms, each told with a log that may be written; what the rounds leave behind is let go. -/
import Derived.Test.YteemcehaekffeaaGreatO68
import Derived.Test.YteemcehaekffeaaGreatO60
import Derived.Test.YteemcehaekffeaaGreatQ41
set_option linter.unusedVariables false
set_option linter.unusedSimpArgs false
section
namespace Go.Am
open Go Go.Proofs
set_option maxHeartbeats 8000000
set_option maxRecDepth 100000
section
attribute [local irreducible] aC aL thenQ blockQ scopeQ ALoop AWp
theorem bels_ints (n:Nat) (l:List Int):bels n (l.map (AVal.int .i64))=true:=by
 induction l with
 |nil=>rfl
 |cons x l ih=>simp [bels,bel,ih]
def ownW (r:Rm) (n:Nat):St:=[.cells (rmW r (.ms (n+2) 172 r.log.length)) 37,.cells (rmW r (.ms (n+2) 172 r.log.length)) 37,.row (rdR r.log) 57]
theorem all_rangeE {i cv m clk:Nat} {ks:Rs} (hks:KsOk ks) (h0:∀ e∈ks,0<e.2.1.log.length) {T T':St} (hT:T'=T++[.cells [.map m] 88]) (hB:AllB T cv m ks clk) (hi:i<T.length)
  (hy:∀ (j:Nat) (h:j<ks.length),∃ J,AYield cx i [.int .i64 ks[j].1,.agg (rmW ks[j].2.1 (.ms (T'.length+2) 172 ks[j].2.1.log.length))] (T'++ownW ks[j].2.1 T'.length) (.bool true) (T'++J)) :
  ACall cx 52 [.yld i,.ptr cv 0] T (.tup []) T':=by
 have hb:=hB.bx
 have hm:=hB.mp
 have hml:m<T.length:=(List.getElem?_eq_some_iff.1 hm).1
 have hcl:cv<T.length:=(List.getElem?_eq_some_iff.1 hb).1
 have hK:=realm_keys T m
 have hkl:((rmX ks).map fun e=>e.1).Perm ((ks.map (·.1)).map (AVal.int .i64)):=by
  have:((rmX ks).map fun e=>e.1)=(ks.map (·.1)).map (AVal.int .i64):=by simp [rmX]
  rw [this]
 have hS:=sorted_keys sort_ok (S:=T++[.cells [.map m] 88]) (i:=m) (j:=T.length) (c:=clk) (ty:=88) (by rw [List.getElem?_append_left hml];exact hm) (by rw [List.getElem?_append_right (Nat.le_refl _)];simp) hkl
  (by rw [List.pairwise_map];exact hks.lt.imp fun h=>by simpa using h) (fun x hx=>by obtain ⟨p,hp,rfl⟩:=List.mem_map.1 hx;have:=hks.wf p hp;have e1:IntKind.i64.min = -9223372036854775808:=rfl;have e2:IntKind.i64.max=9223372036854775807:=rfl;simp only [Lit.wf,e1,e2,Bool.and_eq_true,decide_eq_true_eq];omega) (by rw [List.length_map];have:=hks.ln;omega)
 have hb':T'[cv]? = some (.cells [.map m] 88):=by rw [hT,List.getElem?_append_left hcl];exact hb
 have hm':T'[m]? = some (.mpx (rmX ks) clk):=by rw [hT,List.getElem?_append_left hml];exact hm
 have hTl:T'.length=T.length+1:=by rw [hT];simp
 refine oA lq52 ?_
 have F:=pk2 @hb @hm
 refine st2 F hK hS ?_
 rw [← hT]
 refine loop_ruleE (cxOk.wp _ _) (cxG.wp _ _) (σ:=Nat) (fun j=>[(9,.int .i64 j),(8,.int .i64 ks.length),(7,.sl 1 (ks.map (·.1)).isEmpty ((ks.map (·.1)).map (AVal.int .i64)) .any),(0,.yld i),(1,.ptr cv 0)]) (fun _=>T') (fun j=>ks.length-j) (fun j=>j≤ks.length) T'.length 0
  ⟨Nat.zero_le _,?_,rfl⟩ (Nat.le_refl _) (by omega) (fun j hj=>⟨fun i x h=>.inl h,?_⟩) fun j hj=>?_
 ·exact Sub.of_all (by simp [Fr.get])
 ·simp only [belF,bel,belT,bels_ints,Bool.and_true,Bool.true_and,Bool.and_eq_true]
  exact ⟨blt_iff.2 (by omega),blt_iff.2 (by omega)⟩
 have hln:=hks.ln
 rcases Nat.lt_or_ge j ks.length with hjk|hjk
 ·have hjk':((j:Nat):Int)<(ks.length:Int):=by omega
  have hg:((ks.map (·.1)).map (AVal.int .i64)).getD j .any = .int .i64 ks[j].1:=by simp [List.getD,hjk]
  have hlk:=look_ks hks.lt hjk
  have hD:=realm_ownW (S:=T') ks[j].2.1 (hks.ok _ (List.getElem_mem hjk)) (h0 _ (List.getElem_mem hjk)) (hks.lg _ (List.getElem_mem hjk))
  obtain ⟨J,hY⟩:=hy j hjk
  unfold ownW at hY
  have F:=pk4 @hb' @hm' @hg @hlk
  refine st F ?_
  refine zX F ⟨keys_ks ks _,one_ks hks.lt _⟩ ?_
  refine st1 F hD ?_
  refine zY F hY ?_
  refine st F ?_
  exact ⟨j+1,hjk,Sub.of_all (by simp [Fr.get]),List.take_left' rfl,by omega⟩
 ·have:j=ks.length:=by omega
  subst this
  exact wk True.intro
theorem rgW {N:Nat} {q:Nat→Option UL} {f:Operand} {a b:Nat} {asg body:Code} {Q:Post} {fr:Fr} {S:St} {cv m clk:Nat} {ks:Rs} {la lb:LC} (n:Nat) (hf:aEval (cx.wp cx.pc q) fr.get f = .fn (.func 52) [] [.ptr cv 0]) (hks:KsOk ks) (h0:∀ e∈ks,0<e.2.1.log.length) (hB:AllB S cv m ks clk) (hn:S.length=n)
  (J:(j:Nat)→j<ks.length→St)
  (round:∀ (L0 Ld Lb:ABox) (j:Nat) (h:j<ks.length),aC (cx.wp cx.pc q) N la (fun x fr1 T1=>x = .normal∧T1[n]? = some L0 ∧
   aC (cx.wp cx.pc q) N lb (fun x _ T2=>T2[n]? = some Lb∧rEnd L0 Ld n (.bool true) (S++(L0 :: .cells [.map m] 88::J j h)) x T2) fr1 (T1.set n Lb))
   (putAll fr [a,b] [.int .i64 ks[j].1,.agg (rmW ks[j].2.1 (.ms (n+4) 172 ks[j].2.1.log.length))]) (S++(L0 :: .cells [.map m] 88::ownW ks[j].2.1 (n+2))))
  (fin:∀ L,Q .normal fr (S++[L,.cells [.map m] 88]))
  (hps:([a,b].all fun k=>Nat.blt k N)=true:=by first|rfl|fail) (hna:noRF asg=true:=by first|kernel_rfl|fail) (hnb:noRF body=true:=by first|kernel_rfl|fail) (hca:codeOk (cx.wp cx.pc q) N asg=true:=by first|kernel_rfl|fail) (hcb:codeOk (cx.wp cx.pc q) N body=true:=by first|kernel_rfl|fail)
  (hla:LEq (lite asg) la:=by first|(dsimp only [go_sem,seval,liteO,Option.map,List.map];exact .mk _)|fail) (hlb:LEq (lite body) lb:=by first|(dsimp only [go_sem,seval,liteO,Option.map,List.map];(try simp only [List.getElem?_toArray,List.getElem?_cons_succ,List.getElem?_cons_zero,Option.bind_some]);exact .mk _)|fail) :
  aC (cx.wp cx.pc q) N (.rangeFn f #[a,b] asg body) Q fr S:=by
 subst hn
 generalize hL0:ABox.loop fr N [a,b] asg body .ready none 0=L0
 generalize hLd:ABox.loop fr N [a,b] asg body .done (some .ret) 0=Ld
 have hcl:=(List.getElem?_eq_some_iff.1 hB.bx).1
 have hml:=(List.getElem?_eq_some_iff.1 hB.mp).1
 have hI:=all_rangeE (i:=S.length) (cv:=cv) (m:=m) (clk:=clk) (T:=S++[L0]) (T':=S++[L0,.cells [.map m] 88]) hks h0 (by simp) ⟨by rw [List.getElem?_append_left hcl];exact hB.bx,by rw [List.getElem?_append_left hml];exact hB.mp⟩ (by simp) fun j hj=>by
  refine ⟨J j hj,?_⟩
  have e:(S++[L0,ABox.cells [.map m] 88]).length=S.length+2:=by simp
  rw [e,show S.length+2+2=S.length+4 by omega,List.append_assoc,List.append_assoc]
  refine rdY hL0.symm hLd.symm (by rw [List.getElem?_append_right (Nat.le_refl _),Nat.sub_self];rfl) rfl hps hna hnb hca hcb hla hlb fun Lb=>?_
  exact round L0 Ld Lb j hj
 subst hL0 hLd
 refine aC_rangeFnB (tag:=0) hf rfl hI (by rw [List.getElem?_append_right (Nat.le_refl _),Nat.sub_self];rfl) (by intro h;cases h) ?_
 simp only [pendQ]
 rw [List.set_append_right _ _ (Nat.le_refl _),Nat.sub_self]
 exact fin _
end
end Go.Am
end
section
namespace Go.Am
open Go Go.Proofs
set_option maxHeartbeats 8000000
set_option maxRecDepth 100000
section
attribute [local irreducible] aC aL thenQ blockQ scopeQ ALoop AWp
def bk (x:List Rcd) (k:Nat):List Rcd:=x.mapIdx fun i r=>if i<k then bump r else r
theorem bk_len (x:List Rcd) (k:Nat):(bk x k).length=x.length:=by simp [bk]
theorem bk_zero (x:List Rcd):bk x 0=x:=by
 refine List.ext_getElem (by simp [bk]) fun i h1 h2=>?_
 simp [bk]
theorem bk_get (x:List Rcd) {k i:Nat} (h:i<x.length):(bk x k)[i]'(by rw [bk_len];exact h)=if i<k then bump x[i] else x[i]:=by simp [bk]
theorem bk_succ (x:List Rcd) {k:Nat} (h:k<x.length):(bk x k).set k (bump ((bk x k)[k]'(by rw [bk_len];exact h)))=bk x (k+1):=by
 refine List.ext_getElem (by simp [bk]) fun i h1 h2=>?_
 have hi:i<x.length:=by rw [bk_len] at h2;exact h2
 have hk:=bk_get x (k:=k) h
 rw [if_neg (Nat.lt_irrefl k)] at hk
 rw [bk_get x hi,List.getElem_set]
 by_cases e:k=i
 ·subst e;rw [if_pos rfl,if_pos (Nat.lt_succ_self k),hk]
 ·rw [if_neg e,bk_get x hi]
  by_cases h3:i<k
  ·rw [if_pos h3,if_pos (by omega)]
  ·rw [if_neg h3,if_neg (by omega)]
theorem bk_ok {x:List Rcd} (h:∀ r∈x,r.Ok) (k:Nat):∀ r∈bk x k,r.Ok:=fun r hr=>by
 obtain ⟨i,hi,rfl⟩:=List.getElem_of_mem hr
 have hx:i<x.length:=by rw [bk_len] at hi;exact hi
 rw [bk_get x hx]
 split
 ·exact bump_ok (h _ (List.getElem_mem hx))
 ·exact h _ (List.getElem_mem hx)
theorem rdR_pg {x:List Rcd} (h:∀ r∈x,r.Ok) {j:Nat} (hj:j<x.length):((rdR x).drop (j*172+33)).take 1=[.int .i64 x[j].pg]:=by
 rw [rdR_get h hj (by decide)]
 have hr:=h _ (List.getElem_mem hj)
 unfold rdC
 rw [show (33:Nat)=32+1 by rfl,List.drop_succ_cons,List.drop_left' (by simp [hr.v])]
 rfl
theorem rdR_put {x:List Rcd} (h:∀ r∈x,r.Ok) {j:Nat} (hj:j<x.length) {n:Int} (hn:n=IntKind.i64.wrap (x[j].pg+1)):putCells (rdR x) (j*172+33) [.int .i64 n]=rdR (x.set j (bump x[j])):=by
 subst hn
 have hr:=h _ (List.getElem_mem hj)
 unfold rdR
 rw [flat_put (rdR_len h) (x:=rdC x[j]) (y:=rdC (bump x[j])) (by rw [List.getElem?_map,List.getElem?_eq_getElem hj];rfl) (show 33+1≤172 by decide)]
 ·rw [List.map_set]
 ·rw [putCells_eq _ _ _ (by rw [length_rdC hr];simp)]
  have key:∀ (a:AVal) (v:List AVal) (b b':AVal) (r:List AVal),v.length=32→(a::(v++b::r)).take 33++([b']++(a::(v++b::r)).drop (33+[b'].length))=a::(v++b'::r):=fun a v b b' r hv=>by
   rw [show (33:Nat)=32+1 by rfl,List.take_succ_cons,List.take_left' hv,show 32+1+[b'].length=(32+1)+1 by rfl,List.drop_succ_cons,← List.drop_drop,List.drop_left' hv]
   simp
  have hkey:=key (.int .i64 x[j].k) (bl x[j].v) (.int .i64 x[j].pg) (.int .i64 (IntKind.i64.wrap (x[j].pg+1))) (bl x[j].dt++rpC x[j].rp) (by rw [length_bl];exact hr.v)
  rw [List.append_assoc]
  exact hkey
variable {S:St}
theorem get_copy {x mc oc last:Nat} {ks:Rs} (hks:KsOk ks) (h0:∀ e∈ks,0<e.2.1.log.length) (hb:S[x]? = some (.cells [.ptr oc 0,.map mc,.int .u64 last] 90)) (hm:S[mc]? = some (.mpx (rmX ks) ks.length)) {j:Nat} (hj:j<ks.length) :
  ACall cx 8 [.ptr x 0,.int .i64 ks[j].1] S (.tup [.agg (rmW ks[j].2.1 (.ms (S.length+4) 172 ks[j].2.1.log.length)),.int .i64 0]) (S++[.cells (rmW ks[j].2.1 (.ms (S.length+4) 172 ks[j].2.1.log.length)) 37,.cells (rmC ks[j].2.1) 37,.cells (rmW ks[j].2.1 (.ms (S.length+4) 172 ks[j].2.1.log.length)) 37,.cells (rmW ks[j].2.1 (.ms (S.length+4) 172 ks[j].2.1.log.length)) 37,.row (rdR ks[j].2.1.log) 57]):=by
 have hml:=(List.getElem?_eq_some_iff.1 hm).1
 have hne:x≠mc:=by rintro rfl;rw [hb] at hm;cases hm
 have hnd:(ks.map (·.1)).Nodup:=by unfold List.Nodup;rw [List.pairwise_map];exact hks.lt.imp fun h=>by omega
 refine ACall.anyX hm (by rw [List.getElem?_append_left hml];exact hm) (fun es' hx=>⟨es',hx,?_⟩) ⟨_,reb_mx (.refl _)⟩
 obtain ⟨rs',rfl,hr⟩:=mx_rs fun e he=>hx.perm.mem_iff.1 (List.mem_map.2 ⟨e,he,rfl⟩)
 have hP:RmsP (S.set mc (.mp (rmE rs') ks.length)) x mc oc last rs' ks.length:=⟨by rw [List.getElem?_set_ne (Ne.symm hne)];exact hb,List.getElem?_set_self hml,fun e he=>by obtain ⟨e0,h1,_,h2⟩:=hr e he;rw [h2];exact hks.ok e0 h1⟩
 have hin:∃ e∈rs',e.1=ks[j].1:=by
  have:((.int .i64 ks[j].1,.agg (rmC ks[j].2.1)):AVal × AVal)∈(rmE rs').map fun e=>(e.1,e.2.1):=hx.perm.mem_iff.2 (List.mem_map.2 ⟨ks[j],List.getElem_mem hj,rfl⟩)
  obtain ⟨y,hy,hyk⟩:=List.mem_map.1 this
  obtain ⟨e,he,rfl⟩:=List.mem_map.1 hy
  injection hyk with e1 _
  injection e1 with _ e2
  exact ⟨e,he,e2⟩
 obtain ⟨p,hp⟩ : ∃ p,at? rs' ks[j].1=some p:=by
  cases hc:at? rs' ks[j].1 with
  |some p=>exact ⟨p,rfl⟩
  |none=>obtain ⟨e,he,k⟩:=hin;obtain ⟨i,hi,rfl⟩:=List.getElem_of_mem he;exact absurd k (at_none hc (List.getElem?_eq_getElem hi))
 obtain ⟨e,he,he1,_⟩:=at_some hp
 obtain ⟨e0,g0,g1,g2⟩:=hr e (List.mem_of_getElem? he)
 have hee:e0=ks[j]:=by
  obtain ⟨i,hi,rfl⟩:=List.getElem_of_mem g0
  have h1:(ks.map (·.1))[i]? = (ks.map (·.1))[j]?:=by simp only [List.getElem?_map,List.getElem?_eq_getElem hi,List.getElem?_eq_getElem hj,Option.map_some];rw [← g1,he1]
  have:=(List.getElem?_inj (by simpa using hi) hnd).1 h1
  subst this;rfl
 subst hee
 have hk:=List.getElem_mem hj
 have hG:=realm_getW hP hp he (by rw [g2];exact h0 _ hk) (by rw [g2];exact hks.lg _ hk)
 rw [g2,List.length_set] at hG
 rw [List.set_append_left _ _ hml]
 exact hG
end
end Go.Am
end
section
namespace Go.Am
open Go Go.Proofs
set_option maxHeartbeats 8000000
set_option maxRecDepth 100000
section
attribute [local irreducible] aC aL thenQ blockQ scopeQ ALoop AWp
theorem fill_all {n:Nat} {z:ABox}:∀ (L:Holes),L≠[]→(∀ e∈L,e=(n,z))→∀ T:St,fill T L=T.set n z
 |[],h,_,_=>absurd rfl h
 |e::L,_,h,T=>by
  have he:=h e (List.mem_cons_self ..)
  subst he
  show fill (T.set n z) L=_
  by_cases h0:L=[]
  ·subst h0;rfl
  ·rw [fill_all L h0 (fun e he=>h e (List.mem_cons_of_mem _ he)),List.set_set]
section
variable {C:Cx} {p:FuncId→Bool} {q:Nat→Option UL} {F:Prop} {U:UL} {B:List (Option Nat × Nat)} {d:Option Nat} {gd:Option (Option Nat × Bool)} {x:Operand} {xs:Array Operand} {ts:Array TypeId} {rest:List LO} {Q:Fr→St→Prop} {fr fr':Fr} {f:FuncId} {zs bs args:List AVal} {r:AVal} {z:ABox} {n:Nat} {S K J S1 S2:St}
theorem hJ_ (ff:F) (hc:∀ x:ABox,ACall C f args (S++x::K) r (S++x::(K++J))) (k:aL (C.wp p q) (some (U,B,[(n,z)])) rest Q fr' S2) (hB:∀ e∈B,e.2<n) (hn:S.length=n) (hS1:S ++ .hole::K=S1) (hS2:S ++ .hole::(K++J)=S2)
  (hp:p f=false:=by first|(rfl)|fail) (hg:F→wantL gd fr=some true:=by first|(intro f;exact ev f)|fail) (hx:F→aEval (C.wp p q) fr.get x = .fn (.func f) zs bs:=by first|(intro f;exact ev f)|fail) (ha:F→zs++xs.toList.map (aEval (C.wp p q) fr.get)++bs=args:=by first|(intro f;exact ev f)|fail)
  (hf:fr.put d r=fr':=by first|(exact ef)|fail):aL (C.wp p q) (some (U,B,[(n,z)])) (⟨d,.call ⟨.value x,xs,ts⟩,gd⟩::rest) Q fr S1:=by
 subst hn hS1 hS2
 refine aLH_call (hg ff) (hx ff) (ha ff) ((hc .hole).callX hp) hf (fun e hm h=>?_) (fun L hL=>?_) (fun e he hu=>?_) k
 ·have:e=(S.length,z):=by simpa using hm
  subst this;simp
 ·by_cases hL0:L=[]
  ·subst hL0;exact (hc .hole).callX hp
  ·have h1:∀ e∈L,e=(S.length,z):=fun e he'=>by simpa using (hL e he').1
   rw [fill_all L hL0 h1,fill_all L hL0 h1,List.set_append_right _ _ (Nat.le_refl _),List.set_append_right _ _ (Nat.le_refl _),Nat.sub_self]
   exact (hc z).callX hp
 ·rw [List.getElem?_append_left (hB e he),List.getElem?_append_left (hB e he)]
end
variable {S:St} {n:Nat} {L:List It} {last:Nat} {rs:Rs} {c b:Nat} {all:AVal}
theorem Sim.rsk (h:Sim n S L last rs c b all) (hn:n≤100):RsK rs c :=
 ⟨⟨h.bo.1.lt,h.bo.1.nb,h.nd⟩,fun e he=>by have:=(h.ri e he).lg;omega,fun e he=>by have:=h.bo.1.kw e he;omega,by have:=h.rl;omega,h.ni⟩
theorem Sim.lg0 (h:Sim n S L last rs c b all):∀ e∈srt rs,0<e.2.1.log.length:=fun e he=>List.length_pos_iff.2 (h.ri e ((srt_perm rs).mem_iff.1 he)).ne
theorem Sim.same (h:Sim n S L last rs c b all) (hn:n≤100) (R:St):ACall cx 20 [.agg [.ptr 4 0,.ptr 9 0,.ptr 11 0]] (S++R) (.bool true) (S++R) :=
 pair_same (h.rz.more R) (h.rf.more R) (h.rsk hn) (fun e he=>(h.bo.1.kw e he).1) (fun i hi=>⟨fun e=>(by rw [h.bo.2.nl i hi] at e;cases e),h.ld i hi⟩) (fun _=>rfl) h.bo.2.nd (by have:=h.ll;omega)
def cpO (n:Nat) (L:List It):St:=[.cells (bl zq) 34,.mp (knE L) L.length,.cells (orT zq true [] L.length (n+1) L L.isEmpty .any) 108]
def cpR (n:Nat) (L:List It) (rs:Rs) (last:Nat):St:=cpO n L++[.mpx (rmX (srt rs)) rs.length,.cells [.ptr (n-1) 0,.map (n+3),.int .u64 last] 90]
theorem cpR_len (n:Nat) (L:List It) (rs:Rs) (last:Nat):(cpR n L rs last).length=5:=rfl
theorem Sim.orc (h:Sim n S L last rs c b all) (hn:n≤100):OrcG S 4 3 zq true [] L L.isEmpty (.own 12):=orcG_of h.rz.orc (fun _=>rfl) h.bo.2.nd (by have:=h.ll;omega)
theorem Sim.copyO (h:Sim n S L last rs c b all) (hn:n≤100) (x:ABox):ACall cx 16 [.ptr 4 0] (S++x::[]) (.ptr (S.length+3) 0) (S++x::([]++cpO (S.length+1) L)):=by
 have:=((h.more [x]).orc hn).copy
 rw [List.append_assoc,show (S++[x]).length=S.length+1 by simp] at this
 exact this
theorem Sim.copyR (h:Sim n S L last rs c b all) (hn:n≤100) (x:ABox):ACall cx 15 [.ptr 9 0,.ptr (S.length+3) 0] (S++x::cpO (S.length+1) L) (.ptr (S.length+8) 0) (S++x::(cpO (S.length+1) L++cpR (S.length+4) L rs last)):=by
 have hO:=((h.more [x]).orc hn).ocS
 have hS:=h.more (x::cpO (S.length+1) L)
 have hk:=h.rsk hn
 have e1:(S++[x]).length=S.length+1:=by simp
 have e:S++[x]++ocS (S++[x]) zq true [] L L.isEmpty=S++x::cpO (S.length+1) L:=by
  unfold ocS cpO
  rw [e1,List.append_assoc];rfl
 rw [e,e1] at hO
 have hC:=realm_copy hS.rz.rms hk.bo hk.lg hO
 have e2:(S++x::cpO (S.length+1) L).length=S.length+4:=by simp [cpO]
 rw [e2] at hC
 have e3:S++x::cpO (S.length+1) L++ocS (S++x::cpO (S.length+1) L) zq true [] L L.isEmpty++(.mpx (rmX (srt rs)) rs.length::[.cells [.ptr (S.length+1+2) 0,.map (S.length+4+3),.int .u64 last] 90])=S++x::(cpO (S.length+1) L++cpR (S.length+4) L rs last):=by
  unfold ocS cpR
  rw [e2,show S.length+4-1=S.length+1+2 by omega]
  simp [cpO]
 rw [e3] at hC
 exact hC
structure AS where
 k:Nat
 S:St
 L:List It
 last:Nat
 rs:Rs
 c:Nat
 b:Nat
 all:AVal
structure AI (n0:Nat) (l:List Act) (X:List (Nat × ABox)) (s:AS):Prop where
 k:s.k≤l.length
 sim:Sim (n0+s.k) s.S s.L s.last s.rs s.c s.b s.all
 kp:∀ e∈X,s.S[e.1]? = some e.2
theorem AI.next {n0:Nat} {l:List Act} {X:List (Nat × ABox)} {s:AS} (h:AI n0 l X s) (hX:∀ e∈X,(e.1=0∨14≤e.1)∧e.2.rd=false) (hk:s.k<l.length) {S':St} {L':List It} {last':Nat} {rs':Rs} {c' b':Nat} {all':AVal} (hs:Sim (n0+s.k+1) S' L' last' rs' c' b' all') (f:Far s.S S') :
  AI n0 l X ⟨s.k+1,S',L',last',rs',c',b',all'⟩:=⟨hk,hs,fun e he=>f.2 e.1 e.2 (hX e he).1 (h.kp e he) (hX e he).2⟩
def apL (r:Rm) (n k:Nat):St:=[.cells (rmW r (.ms (n+4) 172 r.log.length)) 37,.cells (rmW r (.ms (n+4) 172 r.log.length)) 37,.row (rdR (bk r.log k)) 57,.cells (rmW r (.ms (n+4) 172 r.log.length)) 37,
 .cells (rmW r (.ms (n+10) 172 r.log.length)) 37,.cells (rmC r) 37,.cells (rmW r (.ms (n+10) 172 r.log.length)) 37,.cells (rmW r (.ms (n+10) 172 r.log.length)) 37,.row (rdR (bk r.log k)) 57,.cells (rmW r (.ms (n+10) 172 r.log.length)) 37]
def apJ (r:Rm) (n:Nat):St:=[.cells (rmW r (.ms (n+4) 172 r.log.length)) 37,.cells (rmW r (.ms (n+4) 172 r.log.length)) 37,.row (rdR (bk r.log r.log.length)) 57,.cells (rmW r (.ms (n+4) 172 r.log.length)) 37,
 .cells (rmW r (.ms (n+10) 172 r.log.length)) 37,.cells (rmC r) 37,.cells (rmW r (.ms (n+10) 172 r.log.length)) 37,.cells (rmW r (.ms (n+10) 172 r.log.length)) 37,.row (rdR (bk r.log r.log.length)) 57,.cells (rmW r (.ms (n+10) 172 r.log.length)) 37,
 .cells (rmW r (.ms (n+16) 172 r.log.length)) 37,.cells (rmC r) 37,.cells (rmW r (.ms (n+16) 172 r.log.length)) 37,.cells (rmW r (.ms (n+16) 172 r.log.length)) 37,.row (rdR r.log) 57,.cells (rmW r (.ms (n+16) 172 r.log.length)) 37]
end
end Go.Am
end
section
namespace Go.Am
open Go Go.Proofs
set_option maxHeartbeats 8000000
set_option maxRecDepth 100000
section
attribute [local irreducible] aC aL thenQ blockQ scopeQ ALoop AWp
theorem ap_round {S:St} {ks:Rs} {x mc oc last:Nat} (hks:KsOk ks) (h0:∀ e∈ks,0<e.2.1.log.length) (hb:S[x]? = some (.cells [.ptr oc 0,.map mc,.int .u64 last] 90)) (hm:S[mc]? = some (.mpx (rmX ks) ks.length)) {j:Nat} (hj:j<ks.length) (R:St) (k:Nat) (hk:S.length+R.length=k) :
  ACall cx 8 [.ptr x 0,.int .i64 ks[j].1] (S++R) (.tup [.agg (rmW ks[j].2.1 (.ms (k+4) 172 ks[j].2.1.log.length)),.int .i64 0]) (S++(R++[.cells (rmW ks[j].2.1 (.ms (k+4) 172 ks[j].2.1.log.length)) 37,.cells (rmC ks[j].2.1) 37,.cells (rmW ks[j].2.1 (.ms (k+4) 172 ks[j].2.1.log.length)) 37,.cells (rmW ks[j].2.1 (.ms (k+4) 172 ks[j].2.1.log.length)) 37,.row (rdR ks[j].2.1.log) 57])):=by
 have hG:=get_copy (S:=S++R) hks h0 (by rw [List.getElem?_append_left (List.getElem?_eq_some_iff.1 hb).1];exact hb) (by rw [List.getElem?_append_left (List.getElem?_eq_some_iff.1 hm).1];exact hm) hj
 rw [List.length_append,hk,List.append_assoc] at hG
 exact hG
theorem law_apart (l more:List Act) (nl nm:Bool) (hl:∀ a∈l,a.Ok) (hm:∀ a∈more,a.Ok) (hll:l.length≤9223372036854775807) (hml:more.length≤9223372036854775807) :
  APure cx 5 [.sl 207 nl (gls actC l) .any,.sl 207 nm (gls actC more) .any] (.bool true):=by
 have hknown:=law_known
 by_cases hl30:30<l.length
 ·have hl':(30:Int)<(l.length:Int):=by omega
  refine oP lq5 ?_
  have F:=pk3 @hl' @length_gls True.intro
  refine st1 F hknown ?_
  simp (disch:=first|omega|(simp only [go_sem];omega)) only [go_sem,seval]
  exact .bool _
 have hl':¬ (30:Int)<(l.length:Int):=by omega
 by_cases hm30:30<more.length
 ·have hm':(30:Int)<(more.length:Int):=by omega
  refine oP lq5 ?_
  have F:=pk4 @hl' @hm' @length_gls True.intro
  refine st1 F hknown ?_
  simp (disch:=first|omega|(simp only [go_sem];omega)) only [go_sem,seval]
  exact .bool _
 have hm':¬ (30:Int)<(more.length:Int):=by omega
 refine oP lq5 ?_
 have F:=pk4 @hl' @hm' @length_gls True.intro
 have hbl:begS.length=14:=rfl
 have hb0:begS[0]? = some (.cells [.bool false] 4):=rfl
 have hbeg:=beg_ok
 refine st1 F hbeg ?_
 have bsim:Sim 0 (begS++[.cells [.ptr 4 0,.ptr 9 0,.ptr 11 0] 28]) [] 0 [] 0 0 (.sl 1 true [] .any) :=
  (⟨beg_rz,beg_ref,fun _ h=>(by cases h),Nat.le_refl _,Nat.le_refl _,Nat.le_refl _,fun _ h=>(by cases h),.nil,.nil,⟨⟨fun _ h=>(by cases h),.nil,fun _ h=>(by cases h)⟩,⟨.nil,fun _ h=>(by cases h)⟩⟩⟩ : Sim 0 begS [] 0 [] 0 0 (.sl 1 true [] .any)).more _
 refine loop_rule (cxOk.wp _ _) (σ:=AS) (fun s=>[(6,.int .i64 s.k),(5,.ptr 14 0),(4,.ptr 0 0),(1,.sl 207 nm (gls actC more) .any),(0,.sl 207 nl (gls actC l) .any)]) (fun s=>s.S) (fun s=>l.length-s.k)
  (AI 0 l [(0,.cells [.bool false] 4),(14,.cells [.ptr 4 0,.ptr 9 0,.ptr 11 0] 28)]) ⟨0,begS++[.cells [.ptr 4 0,.ptr 9 0,.ptr 11 0] 28],[],0,[],0,0,.sl 1 true [] .any⟩ (GStep.refl _ _) ⟨⟨Nat.zero_le _,bsim,?_⟩,?_,?_⟩ fun s hs=>?_
 ·intro e he
  simp only [List.mem_cons,List.not_mem_nil,or_false] at he
  rcases he with rfl|rfl
  ·exact hb0
  ·rfl
 ·exact Sub.of_all (by simp [Fr.get,hbl])
 ·simp
 obtain ⟨k,S,L,last,rs,c,b,all⟩:=s
 have hk:=hs.k
 have hsim:=hs.sim
 have p0:=hs.kp _ (List.mem_cons_self ..)
 have p14:=hs.kp _ (List.mem_cons_of_mem _ (List.mem_cons_self ..))
 simp only [Nat.zero_add] at hk hsim p0 p14
 rcases Nat.lt_or_ge k l.length with hkl|hkl
 ·have hkl':((k:Nat):Int)<(l.length:Int):=by omega
  have hg:=getD_gls actC l ⟨0,0,0,0,[],0,[],[],⟨0,[],false⟩⟩ k .any hkl
  have hx:=hl (l.getD k ⟨0,0,0,0,[],0,[],[],⟨0,[],false⟩⟩) (by rw [show l.getD k ⟨0,0,0,0,[],0,[],[],⟨0,[],false⟩⟩=l[k] by simp [List.getD,hkl]];exact List.getElem_mem hkl)
  generalize l.getD k ⟨0,0,0,0,[],0,[],[],⟨0,[],false⟩⟩=a at *
  have hal:=length_actC hx
  have hat:(actC a).take 207=actC a:=List.take_of_length_le (by omega)
  obtain ⟨S',L',last',rs',c',b',all',hdo,hf,hs',_,_⟩:=do_all hsim (by omega) hx
  have hn:=hs.next (by intro e he;simp only [List.mem_cons,List.not_mem_nil,or_false] at he;rcases he with rfl|rfl<;>simp [ABox.rd]) hkl (by simpa using hs') hf
  have F:=pk7 @hkl' @hkl @length_gls @hg @hal @hat @p14
  refine st1 F hdo ?_
  exact ⟨_,hn,Sub.of_all (by simp [Fr.get]),rfl,by show l.length-(k+1)<l.length-k;omega⟩
 have hke:k=l.length:=by omega
 subst hke
 have hkl':¬ ((l.length:Nat):Int)<(l.length:Int):=by omega
 have h14:14<S.length:=(List.getElem?_eq_some_iff.1 p14).1
 have F:=pk5 @hkl' @length_gls @p14 @p0 @cpR_len
 refine st F ?_
 refine aC_regH (U:=[(some 41,some 44),(some 41,some 7),(some 43,some 7)]) rfl [(some 41,14),(some 43,14)] [(S.length,.cells [.nilp] 25)] 1 ?_
 refine sh F ?_
 refine hJ_ F (hsim.copyO (by omega)) ?_ (by intro e he;simp only [List.mem_cons,List.not_mem_nil,or_false] at he;rcases he with rfl|rfl<;>exact h14) rfl (by simp) rfl
 refine hJ_ F (hsim.copyR (by omega)) ?_ (by intro e he;simp only [List.mem_cons,List.not_mem_nil,or_false] at he;rcases he with rfl|rfl<;>exact h14) rfl (by simp) rfl
 refine hN_ S.length F ?_
 refine sh F ?_
 have hk:=hsim.rsk (by omega)
 have hks:=hk.ks hsim.rz.rms.ok
 have hlg:=hsim.lg0
 obtain ⟨K3,hK3⟩ : ∃ K3:St,K3 = .cells [.ptr (S.length+8) 0] 25::(cpO (S.length+1) L++cpR (S.length+4) L rs last):=⟨_,rfl⟩
 have hK3l:K3.length=9:=by rw [hK3];rfl
 have hk0:K3[0]? = some (.cells [.ptr (S.length+8) 0] 25):=by rw [hK3];rfl
 have hk8:K3[8]? = some (.cells [.ptr (S.length+3) 0,.map (S.length+7),.int .u64 last] 90):=by rw [hK3];rfl
 have hk7:K3[7]? = some (.mpx (rmX (srt rs)) rs.length):=by rw [hK3];rfl
 have hAll:=realm_all (hsim.rz.rms.more K3) hk.bo hk.lg
 have hNil:=realm_copy_nil (hsim.rz.rms.more K3)
 rw [show (S++K3).length=S.length+9 by rw [List.length_append,hK3l],List.append_assoc] at hAll
 have hS3:S ++ .cells [.ptr (S.length+8) 0] 25::(cpO (S.length+1) L++cpR (S.length+4) L rs last)=S++K3:=by rw [hK3]
 have F:=pk7 @p14 @p0 @hS3 @hk0 @hK3l @length_gls True.intro
 refine thenQ_normal ?_
 refine nS F ?_
 refine st2 F hNil hAll ?_
 have hN:S.length=S.length:=rfl
 generalize hNn:S.length=N at *
 have h15:15≤N:=by omega
 refine loop_rule (cxOk.wp _ _) (σ:=AS) (fun s=>[(9,.int .i64 s.k),(8,.fn (.func 52) [] [.ptr (N+9+1) 0]),(7,.ptr N 0),(5,.ptr 14 0),(4,.ptr 0 0),(1,.sl 207 nm (gls actC more) .any)]) (fun s=>s.S) (fun s=>more.length-s.k)
  (AI l.length more [(0,.cells [.bool false] 4),(14,.cells [.ptr 4 0,.ptr 9 0,.ptr 11 0] 28),(N,.cells [.ptr (N+8) 0] 25),(N+8,.cells [.ptr (N+3) 0,.map (N+7),.int .u64 last] 90),(N+7,.mpx (rmX (srt rs)) rs.length),(N+9,.mpx (rmX (srt rs)) rs.length),(N+10,.cells [.map (N+9)] 88)])
  ⟨0,S++(K3++[.mpx (rmX (srt rs)) rs.length,.cells [.map (N+9)] 88]),L,last,rs,c,b,all⟩ (GStep.refl _ _) ⟨⟨Nat.zero_le _,hsim.more _,?_⟩,?_,rfl⟩ fun s2 hs2=>?_
 ·intro e he
  simp only [List.mem_cons,List.not_mem_nil,or_false] at he
  rcases he with rfl|rfl|rfl|rfl|rfl|rfl|rfl
  ·show (S++_)[0]? = _;rw [List.getElem?_append_left (by omega)];exact p0
  ·show (S++_)[14]? = _;rw [List.getElem?_append_left (by omega)];exact p14
  ·show (S++(K3++_))[N]? = _;rw [List.getElem?_append_right (by omega),List.getElem?_append_left (by omega),show N-S.length=0 by omega];exact hk0
  ·show (S++(K3++_))[N+8]? = _;rw [List.getElem?_append_right (by omega),List.getElem?_append_left (by omega),show N+8-S.length=8 by omega];exact hk8
  ·show (S++(K3++_))[N+7]? = _;rw [List.getElem?_append_right (by omega),List.getElem?_append_left (by omega),show N+7-S.length=7 by omega];exact hk7
  ·show (S++(K3++_))[N+9]? = _;rw [List.getElem?_append_right (by omega),List.getElem?_append_right (by omega),show N+9-S.length-K3.length=0 by omega];rfl
  ·show (S++(K3++_))[N+10]? = _;rw [List.getElem?_append_right (by omega),List.getElem?_append_right (by omega),show N+10-S.length-K3.length=1 by omega];rfl
 ·exact Sub.of_all (by simp [Fr.get])
 obtain ⟨k,T,L2,last2,rs2,c2,b2,all2⟩:=s2
 have hk2:=hs2.k
 have hsim2:=hs2.sim
 have hkp:=hs2.kp
 simp only at hk2 hsim2 hkp
 have q0:=hkp _ (List.mem_cons_self ..)
 have q14:=hkp (14,.cells [.ptr 4 0,.ptr 9 0,.ptr 11 0] 28) (by simp)
 have qc:=hkp (N,.cells [.ptr (N+8) 0] 25) (by simp)
 have qx:=hkp (N+8,.cells [.ptr (N+3) 0,.map (N+7),.int .u64 last] 90) (by simp)
 have qm:=hkp (N+7,.mpx (rmX (srt rs)) rs.length) (by simp)
 have qw:=hkp (N+9,.mpx (rmX (srt rs)) rs.length) (by simp)
 have qv:=hkp (N+10,.cells [.map (N+9)] 88) (by simp)
 simp only at q0 q14 qc qx qm qw qv
 rcases Nat.lt_or_ge k more.length with hkl2|hkl2
 ·have hkl':((k:Nat):Int)<(more.length:Int):=by omega
  have hg:=getD_gls actC more ⟨0,0,0,0,[],0,[],[],⟨0,[],false⟩⟩ k .any hkl2
  have hx:=hm (more.getD k ⟨0,0,0,0,[],0,[],[],⟨0,[],false⟩⟩) (by rw [show more.getD k ⟨0,0,0,0,[],0,[],[],⟨0,[],false⟩⟩=more[k] by simp [List.getD,hkl2]];exact List.getElem_mem hkl2)
  generalize more.getD k ⟨0,0,0,0,[],0,[],[],⟨0,[],false⟩⟩=a at *
  have hal:=length_actC hx
  have hat:(actC a).take 207=actC a:=List.take_of_length_le (by omega)
  obtain ⟨S',L',last',rs',c',b',all',hdo,hf,hs',_,_⟩:=do_all hsim2 (by omega) hx
  have hn:=hs2.next (by intro e he;simp only [List.mem_cons,List.not_mem_nil,or_false] at he;rcases he with rfl|rfl|rfl|rfl|rfl|rfl|rfl<;>simp [ABox.rd]<;>omega) hkl2 (by simpa using hs') hf
  have F:=pk7 @hkl' @hkl2 @length_gls @hg @hal @hat @q14
  refine st1 F hdo ?_
  exact ⟨_,hn,Sub.of_all (by simp [Fr.get]),rfl,by show more.length-(k+1)<more.length-k;omega⟩
 have hke:k=more.length:=by omega
 subst hke
 have hkl':¬ ((more.length:Nat):Int)<(more.length:Int):=by omega
 have hT:N+10<T.length:=(List.getElem?_eq_some_iff.1 qv).1
 have F:=pk5 @hkl' @length_gls @q14 @q0 True.intro
 refine st F ?_
 refine rgW T.length (m:=N+9) (clk:=rs.length) (ks:=srt rs) (cv:=N+10) (ev F) hks hlg ⟨qv,qw⟩ rfl (fun j h=>apJ (srt rs)[j].2.1 T.length) (fun L0 Ld Lb j hj=>?_) (fun L0=>?_)
 ·have ro:=hks.ok _ (List.getElem_mem hj)
  have rl:=hks.lg _ (List.getElem_mem hj)
  have r0:=hlg _ (List.getElem_mem hj)
  generalize hn:T.length=n at *
  have wl:=fun v=>length_rmW ro v
  have wt:∀ v,(rmW (srt rs)[j].2.1 v).take 103=rmW (srt rs)[j].2.1 v:=fun v=>List.take_of_length_le (by rw [wl];exact Nat.le_refl _)
  have w6:=rw_6 ro
  have wo:∀ k,(∀ c∈rmW (srt rs)[j].2.1 (.ms k 172 (srt rs)[j].2.1.log.length),c.one=true)=True:=fun k=>eq_true (rmW_one _ rfl)
  have hG1:=ap_round hks hlg qx (by rw [srt_len];exact qm) hj (Lb :: .cells [.map (N+9)] 88::(ownW (srt rs)[j].2.1 (n+2)++[.cells (rmW (srt rs)[j].2.1 (.ms (n+4) 172 (srt rs)[j].2.1.log.length)) 37])) (n+6) (by simp [ownW,hn])
  have hSame:=sameW (S:=T++(Lb :: .cells [.map (N+9)] 88::(ownW (srt rs)[j].2.1 (n+2)++(.cells (rmW (srt rs)[j].2.1 (.ms (n+4) 172 (srt rs)[j].2.1.log.length)) 37 :: .cells (rmW (srt rs)[j].2.1 (.ms (n+10) 172 (srt rs)[j].2.1.log.length)) 37 :: .cells (rmC (srt rs)[j].2.1) 37 :: .cells (rmW (srt rs)[j].2.1 (.ms (n+10) 172 (srt rs)[j].2.1.log.length)) 37 :: .cells (rmW (srt rs)[j].2.1 (.ms (n+10) 172 (srt rs)[j].2.1.log.length)) 37 :: .row (rdR (srt rs)[j].2.1.log) 57::[.cells (rmW (srt rs)[j].2.1 (.ms (n+10) 172 (srt rs)[j].2.1.log.length)) 37])))) ro rl (i:=n+10) (k:=n+4) (by rw [List.getElem?_append_right (by omega),show n+10-T.length=10 by omega];rfl) (by rw [List.getElem?_append_right (by omega),show n+4-T.length=4 by omega];rfl)
  have hG2:=ap_round hks hlg qx (by rw [srt_len];exact qm) hj (Lb :: .cells [.map (N+9)] 88::apL (srt rs)[j].2.1 n (srt rs)[j].2.1.log.length) (n+12) (by simp [apL,hn])
  have hDif:=sameLogD (S:=T++(Lb :: .cells [.map (N+9)] 88::(apL (srt rs)[j].2.1 n (srt rs)[j].2.1.log.length++(.cells (rmW (srt rs)[j].2.1 (.ms (n+16) 172 (srt rs)[j].2.1.log.length)) 37 :: .cells (rmC (srt rs)[j].2.1) 37 :: .cells (rmW (srt rs)[j].2.1 (.ms (n+16) 172 (srt rs)[j].2.1.log.length)) 37 :: .cells (rmW (srt rs)[j].2.1 (.ms (n+16) 172 (srt rs)[j].2.1.log.length)) 37 :: .row (rdR (srt rs)[j].2.1.log) 57::[.cells (rmW (srt rs)[j].2.1 (.ms (n+16) 172 (srt rs)[j].2.1.log.length)) 37])))) (i:=n+16) (k:=n+10) ro.l (bk_ok ro.l (srt rs)[j].2.1.log.length) rl (bk_len _ _).symm r0 (by rw [bk_get _ r0,if_pos r0];exact bump_ne _) (by rw [List.getElem?_append_right (by omega),show n+16-T.length=16 by omega];rfl) (by rw [List.getElem?_append_right (by omega),show n+10-T.length=10 by omega];rfl)
  have hlo:(0:Int)<((srt rs)[j].2.1.log.length:Int):=by omega
  have g3:∀ k,(rdR (bk (srt rs)[j].2.1.log k)).length=(srt rs)[j].2.1.log.length*172:=fun k=>by rw [length_rdR (bk_ok ro.l k),bk_len]
  have gl:∀ k,(h:k<(srt rs)[j].2.1.log.length)→((rdR (bk (srt rs)[j].2.1.log k)).drop (k*172+33)).take 1=[.int .i64 ((srt rs)[j].2.1.log[k]).pg]∧putCells (rdR (bk (srt rs)[j].2.1.log k)) (k*172+33) [.int .i64 (IntKind.i64.wrap (((srt rs)[j].2.1.log[k]).pg+1))]=rdR (bk (srt rs)[j].2.1.log (k+1)):=fun k h=>by
   have hb:(bk (srt rs)[j].2.1.log k)[k]'(by rw [bk_len];exact h)=(srt rs)[j].2.1.log[k]:=by rw [bk_get _ h,if_neg (Nat.lt_irrefl k)]
   have e1:=rdR_pg (bk_ok ro.l k) (by rw [bk_len];exact h)
   have e2:=rdR_put (bk_ok ro.l k) (by rw [bk_len];exact h) rfl
   rw [bk_succ _ h,hb] at e2
   rw [hb] at e1
   exact ⟨e1,e2⟩
  have hb0:=bk_zero (srt rs)[j].2.1.log
  simp only [ownW,apJ,apL,List.cons_append,List.nil_append] at hG1 hSame hG2 hDif ⊢
  generalize (srt rs)[j].2.1.log=log at *
  have W6a:=w6 (.ms (n+4) 172 log.length)
  have W6b:=w6 (.ms (n+10) 172 log.length)
  have W6c:=w6 (.ms (n+16) 172 log.length)
  have Wla:=wl (.ms (n+4) 172 log.length)
  have Wlb:=wl (.ms (n+10) 172 log.length)
  have Wlc:=wl (.ms (n+16) 172 log.length)
  have Wta:=wt (.ms (n+4) 172 log.length)
  have Wtb:=wt (.ms (n+10) 172 log.length)
  have Wtc:=wt (.ms (n+16) 172 log.length)
  have Woa:=wo (n+4)
  have Wob:=wo (n+10)
  have Woc:=wo (n+16)
  clear w6 wl wt wo
  generalize rmW (srt rs)[j].2.1 (.ms (n+4) 172 log.length)=W0 at *
  generalize rmW (srt rs)[j].2.1 (.ms (n+10) 172 log.length)=W1 at *
  generalize rmW (srt rs)[j].2.1 (.ms (n+16) 172 log.length)=W2 at *
  generalize rmC (srt rs)[j].2.1=RM at *
  generalize (srt rs)[j].1=key at *
  have F:=pk12 @qc @hn @W6a @W6b @W6c @Wla @Wlb @Wlc @Wta @Wtb @Wtc (pk6 Woa Wob Woc @o_put0 @q0 @hlo)
  refine nS F ?_ (h:=fun _=>rfl)
  refine st F ?_
  refine ⟨rfl,ev F,?_⟩
  refine nS F ?_
  refine st2 F hG1 hSame ?_
  refine loop_rule (cxOk.wp _ _) (σ:=Nat) (fun k=>[(14,.int .i64 k),(12,.ptr (n+11) 0),(11,.ptr (n+5) 0),(10,.int .i64 key),(7,.ptr N 0),(4,.ptr 0 0)]) (fun k=>T++(Lb :: .cells [.map (N+9)] 88 :: .cells W0 37 :: .cells W0 37 :: .row (rdR (bk log k)) 57 :: .cells W0 37 :: .cells W1 37 :: .cells RM 37 :: .cells W1 37 :: .cells W1 37 :: .row (rdR (bk log k)) 57::[.cells W1 37])) (fun k=>log.length-k) (fun k=>k≤log.length) 0 (GStep.refl _ _) ⟨Nat.zero_le _,Sub.of_all (by simp [Fr.get]),by rw [hb0]⟩ fun k hk=>?_
  rcases Nat.lt_or_ge k log.length with hkl|hkl
  ·have hkl':((k:Nat):Int)<(log.length:Int):=by omega
   obtain ⟨e1,e2⟩:=gl k hkl
   have e3:=g3 k
   have e3':=g3 (k+1)
   have e4:k*172+172≤(rdR (bk log k)).length:=by rw [e3];omega
   have F:=pk8 @hkl' @hkl @e1 @e2 @e4 @W6a @W6b (pk4 @Wla @Wlb @hn True.intro)
   refine st F ?_
   exact ⟨k+1,hkl,Sub.of_all (by simp [Fr.get]),rfl,by omega⟩
  ·have:k=log.length:=by omega
   subst this
   have hkl':¬ ((log.length:Nat):Int)<(log.length:Int):=by omega
   have F:=pk12 @qc @hn @W6a @W6b @W6c @Wla @Wlb @Wlc @Wta @Wtb @Wtc (pk7 Woa Wob Woc @o_put0 @q0 @hlo @hkl')
   refine st2 F hG2 hDif ?_
   exact ⟨ev F,rEnd_n rfl (ev F)⟩
 ·have hS:=hsim2.same (by omega) [L0,.cells [.map (N+9)] 88]
  refine st2 F hS hknown ?_
  simp (disch:=first|omega|(simp only [go_sem];omega)) only [go_sem,seval]
  exact .bool _
end
end Go.Am
end
