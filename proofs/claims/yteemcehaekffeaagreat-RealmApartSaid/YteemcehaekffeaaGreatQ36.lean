/- The chapter's begin, at any state. -/
import Derived.Test.YteemcehaekffeaaGreatO32
import Derived.Test.YteemcehaekffeaaGreatO64
import Derived.Test.YteemcehaekffeaaGreatAmBld
import Derived.Test.YteemcehaekffeaaGreatAmPost
set_option linter.unusedVariables false
set_option linter.unusedSimpArgs false
section
namespace Go.Am
open Go Go.Proofs
set_option maxHeartbeats 8000000
set_option maxRecDepth 100000
section
attribute [local irreducible] aC aL thenQ blockQ scopeQ ALoop AWp
theorem ACall.postE {C:Cx} {f:FuncId} {args:List AVal} {S S' S'':St} {r:AVal} (h:ACall C f args S r S') (g:∀ E:Env,Wf C.G E→E.S=S'→∃ E':Env,E'.w=E.w∧Ext E E'∧Wf C.G E'∧E'.S=S''):ACall C f args S r S'':=by
 refine ⟨h.callable,fun E vs hE hES hvs hrel=>(h.ok E vs hE hES hvs hrel).mono ?_⟩
 rintro _ _ ⟨E',v,h1,h2,h3,h4,h5,h6⟩
 obtain ⟨E2,g1,g2,g3,g4⟩:=g E' h3 h5
 exact ⟨E2,v,h1,g1.trans h2,g3,h4.trans hE g2,g4,h6.ext h3 g2⟩
theorem clone_nil:APure cx 62 [.sl 1 true [] .any] (.sl 32 true [] .any):=by
 refine oD lq62 ?_
 refine st True.intro ?_
 simp (disch:=first|omega|(simp only [go_sem];omega)) only [go_sem,seval]
 simp
theorem new_orc {S:St}:ACall cx 24 [.bool true,.agg (bl zq),.sl 1 true [] .any] S (.ptr (S.length+2) 0) (S++[.cells (bl zq) 34,.mp [] 0,.cells (orT zq true [] 0 (S.length+1) [] true .any) 108]):=by
 have hC:=clone_nil
 have h1:ACall cx 24 [.bool true,.agg (bl zq),.sl 1 true [] .any] S (.ptr (S.length+2) 0) (S++[.cells (bl zq) 34,.mp [] 0,.cells (.bool true::(bl zq++[.sl 32 true [] .any,.int .i64 0,.map (S.length+1),.sl 1 true [] .any])) 108]):=by
  have hm:=length_zq
  have ht:zq.take 32=zq:=rfl
  refine oA lq24 ?_
  have F:=pk5 @hm @ht @o_put0 @o_putP (o_put hm)
  refine st F ?_
  refine aC_regH (U:=[(some 8,some 10),(some 8,some 11)]) rfl [(some 8,S.length)] [(S.length+1,.mp [] 0)] 1 ?_
  refine sh1 F hC ?_
  refine hM_ (S.length+1) F ?_
  refine sh F ?_
  exact wk F
 have h2:=h1.wdBox (S.length+2) (orT zq true [] 0 (S.length+1) [] true .any) (by rw [List.getElem?_append_right (by omega),show S.length+2-S.length=2 by omega];rfl) (by simp [orT,Wds,Wd,Wds_app,gls])
 rw [List.set_append_right _ _ (by omega),show S.length+2-S.length=2 by omega] at h2
 exact h2
def begA (n:Nat) (t1:Tag) (d:AVal):St:=[.cells [.ptr (n+3) 0,.ptr (n+8) 0,.ptr (n+10) 0] 28,.cells (bl zq) 34,.mp [] 0,.cells (orT zq true [] 0 (n+2) [] true t1) 108,.cells (bl zq) 34,.mp [] 0,.cells (orT zq true [] 0 (n+5) [] true .any) 108,.mp [] 0,
 .cells [.ptr (n+3) 0,.map (n+7),.int .u64 0] 90,.cells (.bool true::(bl zq++[.sl 1 true [] .any,.int .i64 0,d])) 79,.cells [.ptr (n+9) 0,.sl 1 true [] .any,.int .u64 0] 82]
theorem beg_run (S:St):ACall cx 7 [.sl 1 true [] .any] S (.agg [.ptr (S.length+3) 0,.ptr (S.length+8) 0,.ptr (S.length+10) 0]) (S++begA S.length .any (.sl 1 true [] .any)):=by
 have hO:=new_orc (S:=S++[.cells [.nilp,.nilp,.nilp] 28])
 have hG:OrcG (S++[.cells [.nilp,.nilp,.nilp] 28,.cells (bl zq) 34,.mp [] 0,.cells (orT zq true [] 0 (S.length+2) [] true .any) 108]) (S.length+3) (S.length+2) zq true [] [] true .any :=
  ⟨by rw [List.getElem?_append_right (by omega),show S.length+3-S.length=3 by omega];rfl,by rw [List.getElem?_append_right (by omega),show S.length+2-S.length=2 by omega];rfl,rfl,fun _=>rfl,Nat.zero_le _,fun _ h=>(by cases h),.nil,fun _=>rfl,Nat.zero_le _⟩
 have hN:=realm_new_ hG
 rw [List.length_append,List.append_assoc] at hO
 rw [List.length_append,List.append_assoc,List.append_assoc] at hN
 unfold ocS at hN
 rw [List.length_append] at hN
 simp only [List.length_cons,List.length_nil,Nat.zero_add,List.cons_append,List.nil_append,Nat.add_assoc,Nat.reduceAdd,List.length_nil] at hO hN
 unfold begA
 have hbz:AVal.agg (bl zq)=AVal.agg (bl [0,0,0,0,0,0,0,0,0,0,0,0,0,0,0,0,0,0,0,0,0,0,0,0,0,0,0,0,0,0,0,0]):=rfl
 rw [hbz] at hO
 refine oA lq7 ?_
 have F:=pk3 @o_put0 @o_putP True.intro
 refine st True.intro ?_
 refine zT F ?_ ?_
 rotate_left
 ·intro n e h;cases h;kernel_rfl
 refine st2 F hO hN ?_
 refine zT F ?_ ?_
 rotate_left
 ·show ∀ x∈bl zq++[AVal.sl 1 true [] .any,.int .i64 0,.sl 1 true [] .any],x.one=true
  intro x hx
  rcases List.mem_append.1 hx with hx|hx
  ·exact bl_one _ _ hx
  ·simp only [List.mem_cons,List.not_mem_nil,or_false] at hx
   rcases hx with rfl|rfl|rfl<;>rfl
 refine st F ?_
 simp (disch:=first|omega|(simp only [go_sem];omega)) only [go_sem,seval]
 rfl
def begL (n:Nat):St:=begA n (.own (n+11)) (.sl 67 true [] (.own (n+12)))++[.grow 0 67 114,.grow 0 67 114]
theorem beg_at (S:St):ACall cx 7 [.sl 1 true [] .any] S (.agg [.ptr (S.length+3) 0,.ptr (S.length+8) 0,.ptr (S.length+10) 0]) (S++begL S.length):=by
 have h1:=(beg_run S).postE (fun E hE hES=>env_ownG (C:=cx) (S.length+3) 36 67 114 (cs:=orT zq true [] 0 (S.length+2) [] true .any) (sz0:=67) (tg:=.any) (tb:=108) (by rw [List.getElem?_append_right (by omega),show S.length+3-S.length=3 by omega];rfl) rfl E hE hES)
 have e1:(S++begA S.length .any (.sl 1 true [] .any)).length=S.length+11:=by simp [begA]
 rw [e1,List.set_append_right _ _ (by omega),show S.length+3-S.length=3 by omega,List.append_assoc] at h1
 have h2:=h1.postE (fun E hE hES=>env_ownG (C:=cx) (S.length+9) 35 67 114 (cs:=.bool true::(bl zq++[.sl 1 true [] .any,.int .i64 0,.sl 1 true [] .any])) (sz0:=1) (tg:=.any) (tb:=79) (by rw [List.getElem?_append_right (by omega),show S.length+9-S.length=9 by omega];rfl) rfl E hE hES)
 have e2:(S++((begA S.length .any (.sl 1 true [] .any)).set 3 (.cells ((orT zq true [] 0 (S.length+2) [] true .any).set 36 (.sl 67 true [] (.own (S.length+11)))) 108)++[ABox.grow 0 67 114])).length=S.length+12:=by simp [begA]
 rw [e2,List.set_append_right _ _ (by omega),show S.length+9-S.length=9 by omega,List.append_assoc] at h2
 exact h2
def begS:St:=.cells [.bool false] 4::begL 1
theorem beg_ok:ACall cx 7 [.sl 1 true [] .any] [.cells [.bool false] 4] (.agg [.ptr 4 0,.ptr 9 0,.ptr 11 0]) begS:=beg_at [.cells [.bool false] 4]
theorem beg_rz:RzP begS 9 8 4 3 12 zq true [] [] 0 [] 0:=⟨⟨rfl,rfl,rfl,rfl,fun _ h=>(by cases h),Nat.zero_le _,fun _ h=>(by cases h)⟩,⟨rfl,rfl,fun _ h=>(by cases h)⟩,by decide⟩
theorem beg_ref:RefP begS 11 10 13 0 1 [] 0 [] (.sl 1 true [] .any):=⟨⟨rfl,rfl,fun _ h=>(by cases h)⟩,rfl,fun _=>⟨1,rfl⟩,fun h=>absurd rfl h,fun _ h=>(by cases h)⟩
theorem beg_rz0:RzP (begL 0) 8 7 3 2 11 zq true [] [] 0 [] 0:=⟨⟨rfl,rfl,rfl,rfl,fun _ h=>(by cases h),Nat.zero_le _,fun _ h=>(by cases h)⟩,⟨rfl,rfl,fun _ h=>(by cases h)⟩,by decide⟩
end
end Go.Am
end
section
namespace Go.Am
open Go Go.Proofs
set_option maxHeartbeats 8000000
set_option maxRecDepth 100000
section
attribute [local irreducible] aC aL thenQ blockQ scopeQ ALoop AWp
def msQ (m:List UInt8) (r:Rcd):Qn:=if r.k=1 then dgQ 1 r.v else if r.k=2 then dgQ 2 (m++(putl r.pg.toNat 8++r.dt)) else dgQ 3 (m++recG r.rp)
structure RcdI (r:Rcd):Prop where
 ok:r.Ok
 k:r.k=1∨(r.k=2∧0≤r.pg∧r.pg<128)∨r.k=3
def Chain (L:List It):List UInt8→List Rcd→List UInt8→Prop
 |m0,[],m=>m=m0
 |m0,r::rest,m=>(∃ p,findQ L (msQ m0 r)=some p)∧RcdI r∧Chain L (askD [] L (msQ m0 r)) rest m
theorem findQ_app {L:List It} {q:Qn} {p:Nat} (h:findQ L q=some p) (L2:List It):findQ (L++L2) q=some p:=by
 unfold findQ at *
 rw [List.findIdx?_append,h]
 rfl
theorem askD_app {L:List It} {q:Qn} {p:Nat} (h:findQ L q=some p) (L2:List It):askD [] (L++L2) q=askD [] L q:=by
 have h2:=findQ_app h L2
 have hl:p<L.length:=(List.findIdx?_eq_some_iff_getElem.1 h).1
 unfold askD
 rw [h,h2]
 simp only
 rw [show (L++L2).getD p ⟨q,false,[]⟩=L.getD p ⟨q,false,[]⟩ by simp [List.getD,List.getElem?_append_left hl]]
theorem askL_ex (L:List It) (q:Qn):∃ L2,askL [] L q false=L++L2:=by
 unfold askL
 split
 ·exact ⟨[],by simp⟩
 ·exact ⟨_,rfl⟩
theorem Chain.mono {L:List It} (L2:List It):∀ {log:List Rcd} {m0 m:List UInt8},Chain L m0 log m→Chain (L++L2) m0 log m
 |[],_,_,h=>h
 |r::rest,m0,m,⟨⟨p,hp⟩,hr,hc⟩=>⟨⟨p,findQ_app hp L2⟩,hr,by rw [askD_app hp];exact hc.mono L2⟩
theorem Chain.snoc {L:List It}:∀ {log:List Rcd} {m0 m:List UInt8},Chain L m0 log m→∀ {r:Rcd},(∃ p,findQ L (msQ m r)=some p)→RcdI r→Chain L m0 (log++[r]) (askD [] L (msQ m r))
 |[],m0,m,h,r,hp,hr=>by
  have h:m=m0:=h
  subst h
  exact ⟨hp,hr,rfl⟩
 |x::rest,m0,m,⟨h1,h2,h3⟩,r,hp,hr=>⟨h1,h2,h3.snoc hp hr⟩
theorem askL_known (L:List It) (q:Qn):∃ p,findQ (askL [] L q false) q=some p:=by
 unfold askL
 rcases h:findQ L q with _|p
 ·refine ⟨L.length,?_⟩
  unfold findQ at *
  rw [List.findIdx?_append,h]
  simp
 ·exact ⟨p,h⟩
theorem askD_known (L:List It) (q:Qn):askD [] (askL [] L q false) q=askD [] L q:=by
 unfold askL
 rcases h:findQ L q with _|p
 ·have h2:findQ (L++[⟨q,false,drawN [] L.length⟩]) q=some L.length:=by
   unfold findQ at *
   rw [List.findIdx?_append,h]
   simp
  unfold askD
  rw [h]
  simp only
  rw [h2]
  simp [List.getD]
 ·rfl
theorem Chain.grow {L:List It} {log:List Rcd} {m:List UInt8} (h:Chain L zq log m) {r:Rcd} (hr:RcdI r) {q:Qn} (hq:msQ m r=q):Chain (askL [] L q false) zq (log++[r]) (askD [] L q):=by
 obtain ⟨L2,hL⟩:=askL_ex L q
 have h2:=h.mono L2
 rw [← hL] at h2
 rw [← askD_known L q]
 subst hq
 exact h2.snoc (askL_known L _) hr
structure RmI (n last:Nat) (L:List It) (r:Rm):Prop where
 nl:r.nl=false
 r0:0≤r.recs
 r1:r.recs≤(n:Int)
 lg:r.log.length≤n+1
 ct:r.ctr≤n
 st:r.st=1∨r.st=2∨r.st=3
 ch:Chain L zq r.log r.meas
 ne:r.log≠[]
 ins:1≤r.inst∧r.inst≤last
theorem RmI.mono {n last n' last':Nat} {L:List It} {r:Rm} (h:RmI n last L r) (h1:n≤n') (h2:last≤last') (L2:List It):RmI n' last' (L++L2) r :=
 ⟨h.nl,h.r0,by have:=h.r1;omega,by have:=h.lg;omega,by have:=h.ct;omega,h.st,h.ch.mono L2,h.ne,⟨h.ins.1,by have:=h.ins.2;omega⟩⟩
structure DqOk (L:List It):Prop where
 nd:(L.map (·.q)).Nodup
 nl:∀ i∈L,i.nl=false
theorem dq_ask {dr:List (List UInt8)} {L:List It} (h:DqOk L) (q:Qn):DqOk (askL dr L q false):=by
 unfold askL
 split
 ·exact h
 ·next hf =>
  refine ⟨?_,fun i hi=>?_⟩
  ·rw [List.map_append,List.nodup_append]
   refine ⟨h.nd,by simp,fun a ha b hb=>?_⟩
   simp only [List.map_cons,List.map_nil,List.mem_singleton] at hb
   obtain ⟨i,hi,k⟩:=List.mem_map.1 ha
   have:=(List.findIdx?_eq_none_iff.1 hf) i hi
   have hq:¬ i.q=q:=by simpa using this
   rw [← k,hb]
   exact hq
  ·rcases List.mem_append.1 hi with hi|hi
   ·exact h.nl i hi
   ·rw [List.mem_singleton.1 hi]
structure BirOk (rs:Rs) (c:Nat):Prop where
 lt:∀ e∈rs,e.2.2<c
 nb:(rs.map (·.2.2)).Nodup
 kw:∀ e∈rs,0≤e.1∧e.1<9223372036854775808
theorem BirOk.set {rs:Rs} {c p:Nat} {e:Int × Rm × Nat} (h:BirOk rs c) (he:rs[p]? = some e) (r:Rm):BirOk (rs.set p (e.1,r,e.2.2)) c:=by
 have hm:(rs.set p (e.1,r,e.2.2)).map (·.2.2)=rs.map (·.2.2):=by
  rw [List.map_set]
  apply List.ext_getElem?
  intro i
  by_cases hi:p=i
  ·subst hi
   rw [List.getElem?_set_self (by rw [List.length_map];exact (List.getElem?_eq_some_iff.1 he).1),List.getElem?_map,he]
   rfl
  ·rw [List.getElem?_set_ne hi]
 refine ⟨fun x hx=>?_,by rw [hm];exact h.nb,fun x hx=>by
  rcases List.mem_or_eq_of_mem_set hx with hx|rfl
  ·exact h.kw x hx
  ·exact h.kw e (List.mem_of_getElem? he)⟩
 have:x.2.2∈rs.map (·.2.2):=by rw [← hm];exact List.mem_map.2 ⟨x,hx,rfl⟩
 obtain ⟨y,hy,k⟩:=List.mem_map.1 this
 rw [← k]
 exact h.lt y hy
theorem BirOk.erase {rs:Rs} {c:Nat} (h:BirOk rs c) (p:Nat):BirOk (rs.eraseIdx p) c :=
 ⟨fun x hx=>h.lt x (List.mem_of_mem_eraseIdx hx),h.nb.sublist ((List.eraseIdx_sublist rs p).map _),fun x hx=>h.kw x (List.mem_of_mem_eraseIdx hx)⟩
theorem BirOk.add {rs:Rs} {c:Nat} (h:BirOk rs c) (rd:Int) (r:Rm) (hk:0≤rd∧rd<9223372036854775808):BirOk (rs++[(rd,r,c)]) (c+1):=by
 refine ⟨fun x hx=>?_,?_,fun x hx=>by
  rcases List.mem_append.1 hx with hx|hx
  ·exact h.kw x hx
  ·rw [List.mem_singleton.1 hx];exact hk⟩
 ·rcases List.mem_append.1 hx with hx|hx
  ·exact Nat.lt_succ_of_lt (h.lt x hx)
  ·rw [List.mem_singleton.1 hx];exact Nat.lt_succ_self c
 ·rw [List.map_append,List.nodup_append]
  refine ⟨h.nb,by simp,fun a ha b hb=>?_⟩
  simp only [List.map_cons,List.map_nil,List.mem_singleton] at hb
  obtain ⟨x,hx,k⟩:=List.mem_map.1 ha
  have:=h.lt x hx
  omega
structure Sim (n:Nat) (S:St) (L:List It) (last:Nat) (rs:Rs) (c b:Nat) (all:AVal):Prop where
 rz:RzP S 9 8 4 3 12 zq true [] L last rs c
 rf:RefP S 11 10 13 b 1 L last rs all
 ld:LD L
 ll:L.length≤2*n
 rl:rs.length≤n
 la:last≤n
 ri:∀ e∈rs,RmI n last L e.2.1
 nd:(rs.map (·.1)).Nodup
 ni:(rs.map (·.2.1.inst)).Nodup
 bo:BirOk rs c∧DqOk L
theorem Sim.more {n:Nat} {S:St} {L:List It} {last:Nat} {rs:Rs} {c b:Nat} {all:AVal} (h:Sim n S L last rs c b all) (R:St):Sim n (S++R) L last rs c b all :=
 ⟨h.rz.more R,h.rf.more R,h.ld,h.ll,h.rl,h.la,h.ri,h.nd,h.ni,h.bo⟩
def Far (S S':St):Prop:=S.length≤S'.length∧∀ (i:Nat) (x:ABox),(i=0∨14≤i)→S[i]? = some x→x.rd=false→S'[i]? = some x
theorem Far.refl (S:St):Far S S:=⟨Nat.le_refl _,fun _ _ _ h _=>h⟩
theorem Far.trans {A B D:St} (h:Far A B) (k:Far B D):Far A D:=⟨Nat.le_trans h.1 k.1,fun i x hi hx hr=>k.2 i x hi (h.2 i x hi hx hr) hr⟩
theorem Kept.far {S S':St} {b:Nat} {rs:Rs} {L:List It} {last:Nat} {all:AVal} (hP:RefP S 11 10 13 b 1 L last rs all) (h:Kept S S' 11 10 13 b rs):Far S S' :=
 ⟨h.len,fun i x hi hx hr=>by
  rw [h.ne i (List.getElem?_eq_some_iff.1 hx).1 (by omega) (by omega) (by omega) (fun hn e=>by
   subst e
   rw [(hP.row hn).2] at hx
   rw [← Option.some.inj hx] at hr
   cases hr)]
  exact hx⟩
theorem Far.setA (S:St) (y:ABox):Far S (S.set 8 y):=⟨by rw [List.length_set];exact Nat.le_refl _,fun i x hi hx _=>by rw [List.getElem?_set_ne (by omega)];exact hx⟩
theorem Far.askS {S:St} {L:List It} (q:Qn):Far S (askS S 4 3 12 zq true [] L q false):=⟨by rw [length_askS];exact Nat.le_refl _,fun i x hi hx _=>by rw [askS_ne q false (by omega) (by omega) (by omega)];exact hx⟩
def Stays (rd:Int) (rs rs':Rs):Prop:=∀ p e,at? rs rd=some p→rs[p]? = some e→e.2.1.st≠1→∀ p' e',at? rs' rd=some p'→rs'[p']? = some e'→e'.2.1.meas=e.2.1.meas∧e'.2.1.st≠1
def Cts (last:Nat) (rs rs':Rs) (last':Nat):Prop:=last≤last'∧∀ e'∈rs',(∃ e∈rs,e'.2.1.inst=e.2.1.inst∧e'.2.1.ctr=e.2.1.ctr)∨(last<e'.2.1.inst∧e'.2.1.ctr=0)
theorem Cts.refl (last:Nat) (rs:Rs):Cts last rs rs last:=⟨Nat.le_refl _,fun e he=>.inl ⟨e,he,rfl,rfl⟩⟩
theorem Cts.set {last:Nat} {rs:Rs} {p:Nat} {e:Int × Rm × Nat} (he:rs[p]? = some e) (r:Rm) (k:Nat) (h1:r.inst=e.2.1.inst) (h2:r.ctr=e.2.1.ctr):Cts last rs (rs.set p (e.1,r,k)) last:=⟨Nat.le_refl _,fun x hx=>by
 rcases List.mem_or_eq_of_mem_set hx with hx|rfl
 ·exact .inl ⟨x,hx,rfl,rfl⟩
 ·exact .inl ⟨e,List.mem_of_getElem? he,h1,h2⟩⟩
theorem Stays.refl (rd:Int) (rs:Rs):Stays rd rs rs:=fun p e h1 h2 h3 p' e' k1 k2=>by
 rw [h1] at k1
 cases k1
 rw [h2] at k2
 cases k2
 exact ⟨rfl,h3⟩
theorem Stays.set {rd:Int} {rs:Rs} {p:Nat} {e:Int × Rm × Nat} (hp:at? rs rd=some p) (he:rs[p]? = some e) (r:Rm) (hr:e.2.1.st≠1→r.meas=e.2.1.meas∧r.st≠1):Stays rd rs (rs.set p (e.1,r,e.2.2)):=fun p1 e1 h1 h2 h3 p' e' k1 k2=>by
 rw [hp] at h1
 cases h1
 rw [he] at h2
 cases h2
 rw [at_set he,hp] at k1
 cases k1
 rw [List.getElem?_set_self (List.getElem?_eq_some_iff.1 he).1] at k2
 cases k2
 exact hr h3
theorem RefP.prog {S T:St} {b:Nat} {rs:Rs} {L:List It} {last:Nat} {all:AVal} (h:RefP S 11 10 13 b 1 L last rs all) (hT:∀ i,i≠9→i≠8→i≠4→i≠3→i≠12→T[i]? = S[i]?) (hb:rs≠[]→b≠9∧b≠8∧b≠4∧b≠3∧b≠12):RefP T 11 10 13 b 1 L last rs all :=
 h.same (hT 10 (by decide) (by decide) (by decide) (by decide) (by decide)) (hT 13 (by decide) (by decide) (by decide) (by decide) (by decide)) (hT 11 (by decide) (by decide) (by decide) (by decide) (by decide)) fun hn=>hT b (hb hn).1 (hb hn).2.1 (hb hn).2.2.1 (hb hn).2.2.2.1 (hb hn).2.2.2.2
theorem Sim.bfar {n:Nat} {S:St} {L:List It} {last:Nat} {rs:Rs} {c b:Nat} {all:AVal} (h:Sim n S L last rs c b all) (hn:rs≠[]):b≠9∧b≠8∧b≠4∧b≠3∧b≠12:=by
 obtain ⟨_,hr⟩:=h.rf.row hn
 refine ⟨?_,?_,?_,?_,?_⟩<;>rintro rfl
 ·rw [h.rz.rms.bx] at hr;cases hr
 ·rw [h.rz.rms.mp] at hr;cases hr
 ·rw [h.rz.orc.bx] at hr;cases hr
 ·rw [h.rz.orc.mp] at hr;cases hr
 ·rw [h.rz.orc.lg] at hr;cases hr
theorem RzP.ref {S T:St} {b:Nat} {rs:Rs} {L:List It} {last c:Nat} (h:RzP S 9 8 4 3 12 zq true [] L last rs c) (hb:rs≠[]→b≠9∧b≠8∧b≠4∧b≠3∧b≠12) {rs0:Rs} (h0:rs0≠[]→rs≠[]) (hT:Kept S T 11 10 13 b rs0):RzP T 9 8 4 3 12 zq true [] L last rs c:=by
 have l1:=h.orc.lt
 have l2:=h.rms.lt
 have k:=fun i (hi:i<S.length) (h1:i≠11) (h2:i≠10) (h3:i≠13) (h4:rs0≠[]→i≠b)=>hT.ne i hi h1 h2 h3 h4
 exact ⟨h.orc.same (k 4 l1.1 (by decide) (by decide) (by decide) fun hn=>Ne.symm (hb (h0 hn)).2.2.1) (k 3 l1.2.1 (by decide) (by decide) (by decide) fun hn=>Ne.symm (hb (h0 hn)).2.2.2.1) (k 12 l1.2.2 (by decide) (by decide) (by decide) fun hn=>Ne.symm (hb (h0 hn)).2.2.2.2),
  ⟨(k 9 l2.1 (by decide) (by decide) (by decide) fun hn=>Ne.symm (hb (h0 hn)).1).trans h.rms.bx,(k 8 l2.2 (by decide) (by decide) (by decide) fun hn=>Ne.symm (hb (h0 hn)).2.1).trans h.rms.mp,h.rms.ok⟩,h.ak⟩
end
end Go.Am
end
section
namespace Go.Am
open Go Go.Proofs
set_option maxHeartbeats 8000000
set_option maxRecDepth 100000
section
attribute [local irreducible] aC aL thenQ blockQ scopeQ ALoop AWp
theorem zRm_ok:zRm.Ok:=⟨rfl,rfl,rfl,fun x hx=>(by cases hx),fun _=>rfl⟩
theorem zRm_wk:Wk (.agg zRmC) (.agg (rmC zRm)):=by simp [zRmC,zRm,rmC,Wk,Wks,Wks_app,gls,zq]
section
variable {S:St} {x a o last:Nat} {rs:Rs} {c:Nat}
theorem realm_create_arg (h:RmsP S x a o last rs c) {rd root:Int} (hb:rd<0∨root<0) {v t:List UInt8} {nodes:Nat} (hv:v.length=32) (ht:t.length=32):ACall cx 9 [.ptr x 0,.int .i64 rd,.int .i64 root,.agg (bl v++[.int .u64 nodes]),.agg (bl t)] S (.tup [.agg (rmC zRm),.int .i64 2]) S:=by
 have hvo:∀ c∈bl v++[AVal.int .u64 nodes],c.one=true:=fun c hc=>by
  rcases List.mem_append.1 hc with hc|hc
  ·exact bl_one _ _ hc
  ·rw [List.mem_singleton.1 hc];rfl
 have hto:∀ c∈bl t,c.one=true:=fun c hc=>bl_one _ _ hc
 have z99:zRmC.take 103=zRmC:=rfl
 have z0:putCells zRmC 0 zRmC=zRmC:=o_put0 rfl
 have zl:zRmC.length=103:=rfl
 have hT:=fun R:St=>realm_there (h.more R)
 have hlt:=h.lt
 have hw:ACall cx 9 [.ptr x 0,.int .i64 rd,.int .i64 root,.agg (bl v++[.int .u64 nodes]),.agg (bl t)] S (.tup [.agg zRmC,.int .i64 2]) (S++[.cells (bl v++[.int .u64 nodes]) 42,.cells (bl t) 34,.cells zRmC 37]):=by
  unfold zRmC at *
  by_cases h1:rd<0
  ·refine oA lq9 ?_
   have F:=(pk4 @h1 @z99 @z0 @zl)
   repeat' (first|refine st1 F hT ?_|(refine cp F ?_ ?_<;>intro h)|refine zT F ?_ ?_)
   all_goals try exact cl F
   all_goals try exact hvo
   all_goals try exact hto
   all_goals try exact zRm_one
   all_goals try exact fun n e h=>h.elim
   all_goals try simp
   all_goals try (rintro c (hc|rfl|hc|rfl|hc|rfl)<;>first|rfl|exact bl_one _ _ hc)
  ·have h2:root<0:=by omega
   refine oA lq9 ?_
   have F:=(pk5 @h1 @h2 @z99 @z0 @zl)
   repeat' (first|refine st1 F hT ?_|(refine cp F ?_ ?_<;>intro h)|refine zT F ?_ ?_)
   all_goals try exact cl F
   all_goals try exact hvo
   all_goals try exact hto
   all_goals try exact zRm_one
   all_goals try exact fun n e h=>h.elim
   all_goals try simp
   all_goals try (rintro c (hc|rfl|hc|rfl|hc|rfl)<;>first|rfl|exact bl_one _ _ hc)
 exact (hw.wk (Wks_refl _) (by simp only [Wk,Wks,and_true];exact zRm_wk)).keep cxG (by omega) rfl (by simp [bel,bels,bels_rmC]) fun i x hx=>.inl hx
theorem realm_create_state (h:RmsP S x a o last rs c) {rd root:Int} (h0:0≤rd) (h1:0≤root) {p:Nat} {e:Int × Rm × Nat} (hp:at? rs rd=some p) (he:rs[p]? = some e) {v t:List UInt8} {nodes:Nat} (hv:v.length=32) (ht:t.length=32):ACall cx 9 [.ptr x 0,.int .i64 rd,.int .i64 root,.agg (bl v++[.int .u64 nodes]),.agg (bl t)] S (.tup [.agg (rmC zRm),.int .i64 7]) S:=by
 have hvo:∀ c∈bl v++[AVal.int .u64 nodes],c.one=true:=fun c hc=>by
  rcases List.mem_append.1 hc with hc|hc
  ·exact bl_one _ _ hc
  ·rw [List.mem_singleton.1 hc];rfl
 have hto:∀ c∈bl t,c.one=true:=fun c hc=>bl_one _ _ hc
 have z99:zRmC.take 103=zRmC:=rfl
 have z0:putCells zRmC 0 zRmC=zRmC:=o_put0 rfl
 have zl:zRmC.length=103:=rfl
 have hT:=fun R:St=>realm_there (h.more R)
 have hlt:=h.lt
 have hS:=h.bx
 have hM:=h.mp
 have hL:=fun z=>look_rm hp he z
 have hF:=(findK_rm rs rd).trans hp
 have hQ:=qkeys_rm rs rd
 have w3:¬ rd<0:=by omega
 have w4:¬ root<0:=by omega
 have hw:ACall cx 9 [.ptr x 0,.int .i64 rd,.int .i64 root,.agg (bl v++[.int .u64 nodes]),.agg (bl t)] S (.tup [.agg zRmC,.int .i64 7]) (S++[.cells (bl v++[.int .u64 nodes]) 42,.cells (bl t) 34,.cells zRmC 37,.cells (rmC e.2.1) 37]):=by
  have hrm:=length_rmC (h.ok e (List.mem_of_getElem? he))
  have hro:=rm_one e.2.1
  have hrt:(rmC e.2.1).take 103=rmC e.2.1:=List.take_of_length_le (by omega)
  unfold zRmC at *
  generalize rmC e.2.1=rm at *
  refine oA lq9 ?_
  have F:=(pk12 @hS @hM @hL @hF @w3 @w4 @z99 @z0 @zl @hrm @hrt @o_put0)
  repeat' (first|refine st1 F hT ?_|(refine cp F ?_ ?_<;>intro h)|refine zT F ?_ ?_|refine mLT F ?_ ?_|refine mUT F ?_ ?_|refine mDT F ?_ ?_|(refine gP F ?_ ?_<;>(intro h;first|(exfalso;omega)|(simp only [h,decide_true,decide_false,not_true,not_false_iff])))|(refine gN F ?_ ?_<;>(intro h;first|(exfalso;omega)|(simp only [h,decide_true,decide_false,not_true,not_false_iff]))))
  all_goals try exact cl F
  all_goals try exact hvo
  all_goals try exact hto
  all_goals try exact zRm_one
  all_goals try exact fun n e h=>h.elim
  all_goals try simp
  all_goals try (rintro c (hc|rfl|hc|rfl|hc|rfl)<;>first|rfl|exact bl_one _ _ hc)
  all_goals try exact hQ
  all_goals try exact ⟨hrm,hro⟩
  all_goals try exact hro
 exact (hw.wk (Wks_refl _) (by simp only [Wk,Wks,and_true];exact zRm_wk)).keep cxG (by omega) rfl (by simp [bel,bels,bels_rmC]) fun i x hx=>.inl hx
end
section
variable {S:St} {y q l b sd:Nat} {L:List It} {last:Nat} {rs:Rs} {all:AVal}
theorem ref_create_arg (h:RefP S y q l b sd L last rs all) {rd root:Int} (hb:rd<0∨root<0) {v t:List UInt8} {nodes:Nat} (hv:v.length=32) (ht:t.length=32):ACall cx 10 [.ptr y 0,.int .i64 rd,.int .i64 root,.agg (bl v++[.int .u64 nodes]),.agg (bl t)] S (.tup [.agg (rmC zRm),.int .i64 2]) S:=by
 have hvo:∀ c∈bl v++[AVal.int .u64 nodes],c.one=true:=fun c hc=>by
  rcases List.mem_append.1 hc with hc|hc
  ·exact bl_one _ _ hc
  ·rw [List.mem_singleton.1 hc];rfl
 have hto:∀ c∈bl t,c.one=true:=fun c hc=>bl_one _ _ hc
 have z99:zRmC.take 103=zRmC:=rfl
 have z0:putCells zRmC 0 zRmC=zRmC:=o_put0 rfl
 have zl:zRmC.length=103:=rfl
 have hlt:=h.lt
 have hw:ACall cx 10 [.ptr y 0,.int .i64 rd,.int .i64 root,.agg (bl v++[.int .u64 nodes]),.agg (bl t)] S (.tup [.agg zRmC,.int .i64 2]) (S++[.cells (bl v++[.int .u64 nodes]) 42,.cells (bl t) 34,.cells zRmC 37]):=by
  unfold zRmC at *
  by_cases h1:rd<0
  ·refine oA lq10 ?_
   have F:=(pk4 @h1 @z99 @z0 @zl)
   repeat' (first|refine st F ?_|(refine cp F ?_ ?_<;>intro h)|refine zT F ?_ ?_)
   all_goals try exact cl F
   all_goals try exact hvo
   all_goals try exact hto
   all_goals try exact zRm_one
   all_goals try exact fun n e h=>h.elim
   all_goals try simp
   all_goals try (rintro c (hc|rfl|hc|rfl|hc|rfl)<;>first|rfl|exact bl_one _ _ hc)
  ·have h2:root<0:=by omega
   refine oA lq10 ?_
   have F:=(pk5 @h1 @h2 @z99 @z0 @zl)
   repeat' (first|refine st F ?_|(refine cp F ?_ ?_<;>intro h)|refine zT F ?_ ?_)
   all_goals try exact cl F
   all_goals try exact hvo
   all_goals try exact hto
   all_goals try exact zRm_one
   all_goals try exact fun n e h=>h.elim
   all_goals try simp
   all_goals try (rintro c (hc|rfl|hc|rfl|hc|rfl)<;>first|rfl|exact bl_one _ _ hc)
 exact (hw.wk (Wks_refl _) (by simp only [Wk,Wks,and_true];exact zRm_wk)).keep cxG (by omega) rfl (by simp [bel,bels,bels_rmC]) fun i x hx=>.inl hx
theorem ref_create_state (h:RefP S y q l b sd L last rs all) (hrn:rs.length≤1000000) {rd root:Int} (h0:0≤rd) (h1:0≤root) {p:Nat} (hp:at? rs rd=some p) {v t:List UInt8} {nodes:Nat} (hv:v.length=32) (ht:t.length=32):ACall cx 10 [.ptr y 0,.int .i64 rd,.int .i64 root,.agg (bl v++[.int .u64 nodes]),.agg (bl t)] S (.tup [.agg (rmC zRm),.int .i64 7]) S:=by
 have hvo:∀ c∈bl v++[AVal.int .u64 nodes],c.one=true:=fun c hc=>by
  rcases List.mem_append.1 hc with hc|hc
  ·exact bl_one _ _ hc
  ·rw [List.mem_singleton.1 hc];rfl
 have hto:∀ c∈bl t,c.one=true:=fun c hc=>bl_one _ _ hc
 have z99:zRmC.take 103=zRmC:=rfl
 have z0:putCells zRmC 0 zRmC=zRmC:=o_put0 rfl
 have zl:zRmC.length=103:=rfl
 have hAt:=fun R:St=>ref_at (h.more R) hrn rd
 rw [show atI rs rd=(p:Nat) by unfold atI;rw [hp]] at hAt
 have hlt:=h.lt
 have w3:¬ rd<0:=by omega
 have w4:¬ root<0:=by omega
 have hw:ACall cx 10 [.ptr y 0,.int .i64 rd,.int .i64 root,.agg (bl v++[.int .u64 nodes]),.agg (bl t)] S (.tup [.agg zRmC,.int .i64 7]) (S++[.cells (bl v++[.int .u64 nodes]) 42,.cells (bl t) 34,.cells zRmC 37]):=by
  unfold zRmC at *
  refine oA lq10 ?_
  have F:=(pk5 @w3 @w4 @z99 @z0 @zl)
  repeat' (first|refine st1 F hAt ?_|(refine cp F ?_ ?_<;>intro h)|refine zT F ?_ ?_)
  all_goals try exact cl F
  all_goals try exact hvo
  all_goals try exact hto
  all_goals try exact zRm_one
  all_goals try exact fun n e h=>h.elim
  all_goals try simp
  all_goals try (rintro c (hc|rfl|hc|rfl|hc|rfl)<;>first|rfl|exact bl_one _ _ hc)
 exact (hw.wk (Wks_refl _) (by simp only [Wk,Wks,and_true];exact zRm_wk)).keep cxG (by omega) rfl (by simp [bel,bels,bels_rmC]) fun i x hx=>.inl hx
end
end
end Go.Am
end
section
namespace Go.Am
open Go Go.Proofs
set_option maxHeartbeats 8000000
set_option maxRecDepth 100000
section
attribute [local irreducible] aC aL thenQ blockQ scopeQ ALoop AWp
def Done (n:Nat) (S:St) (rd:Int) (rs:Rs) (Rl:Rs→Nat→Prop) (fp fr:FuncId) (pa ra:List AVal) (vp vr:AVal):Prop :=
 ∃ (S1 S2:St) (L':List It) (last':Nat) (rs':Rs) (c' b':Nat) (all':AVal),ACall cx fp pa S vp S1∧Far S S1∧ACall cx fr ra S1 vr S2∧Far S1 S2∧Sim (n+1) S2 L' last' rs' c' b' all'∧Stays rd rs rs'∧Rl rs' last'
section
variable {n:Nat} {S:St} {L:List It} {last:Nat} {rs:Rs} {c b:Nat} {all:AVal}
theorem Sim.idle (h:Sim n S L last rs c b all):Sim (n+1) S L last rs c b all :=
 ⟨h.rz,h.rf,h.ld,by have:=h.ll;omega,by have:=h.rl;omega,by have:=h.la;omega,fun e he=>by
  have:=(h.ri e he).mono (Nat.le_succ n) (Nat.le_refl last) []
  rw [List.append_nil] at this
  exact this,h.nd,h.ni,h.bo⟩
theorem done_idle (h:Sim n S L last rs c b all) {rd:Int} {fp fr:FuncId} {pa ra:List AVal} {v:AVal} {Rl:Rs→Nat→Prop} (hRl:Rl rs last) (h1:ACall cx fp pa S v S) (h2:ACall cx fr ra S v S):Done n S rd rs Rl fp fr pa ra v v :=
 ⟨S,S,L,last,rs,c,b,all,h1,.refl S,h2,.refl S,h.idle,.refl rd rs,hRl⟩
theorem set_nn (hn:rs≠[]) (p:Nat) (x:Int × Rm × Nat):rs.set p x≠[]:=fun k=>hn (List.length_eq_zero_iff.1 (by
 have:=congrArg List.length k
 rw [List.length_set] at this
 exact this))
theorem keys_set {p:Nat} {e:Int × Rm × Nat} (he:rs[p]? = some e) (r:Rm) (k:Nat):(rs.set p (e.1,r,k)).map (·.1)=rs.map (·.1):=by
 rw [List.map_set]
 apply List.ext_getElem?
 intro i
 by_cases hi:p=i
 ·subst hi
  rw [List.getElem?_set_self (by rw [List.length_map];exact (List.getElem?_eq_some_iff.1 he).1),List.getElem?_map,he]
  rfl
 ·rw [List.getElem?_set_ne hi]
theorem inst_set {p:Nat} {e:Int × Rm × Nat} (he:rs[p]? = some e) (r:Rm) (k:Nat) (hr:r.inst=e.2.1.inst):(rs.set p (e.1,r,k)).map (·.2.1.inst)=rs.map (·.2.1.inst):=by
 rw [List.map_set]
 apply List.ext_getElem?
 intro i
 by_cases hi:p=i
 ·subst hi
  rw [List.getElem?_set_self (by rw [List.length_map];exact (List.getElem?_eq_some_iff.1 he).1),List.getElem?_map,he]
  show some r.inst=some e.2.1.inst
  rw [hr]
 ·rw [List.getElem?_set_ne hi]
theorem done_grow (h:Sim n S L last rs c b all) {rd:Int} {p:Nat} {e:Int × Rm × Nat} (hp:at? rs rd=some p) (he:rs[p]? = some e) {fp fr:FuncId} {pa ra:List AVal} {v:AVal} {Q:Qn} (hQ:Q.key.length=32) (hQd:Q.data.length≤1000000000) {r:Rm} (hok:r.Ok) (hi:RmI (n+1) last (askL [] L Q false) r) (hs:e.2.1.st=1) (hin:r.inst=e.2.1.inst) {Rl:Rs→Nat→Prop} (hRl:Rl (rs.set p (e.1,r,e.2.2)) last)
  (h1:ACall cx fp pa S v ((askS S 4 3 12 zq true [] L Q false).set 8 (.mp (rmE (rs.set p (e.1,r,e.2.2))) c)))
  (h2:∀ T,RefP T 11 10 13 b 1 L last rs all→∃ T',ACall cx fr ra T v T'∧Kept T T' 11 10 13 b rs∧RefP T' 11 10 13 b 1 (askL [] L Q false) last (rs.set p (e.1,r,e.2.2)) all):Done n S rd rs Rl fp fr pa ra v v:=by
 have hn:rs≠[]:=by rintro rfl;simp at he
 have hb:=h.bfar
 have hP:=h.rf.prog (T:=(askS S 4 3 12 zq true [] L Q false).set 8 (.mp (rmE (rs.set p (e.1,r,e.2.2))) c)) (fun i i1 i2 i3 i4 i5=>by rw [List.getElem?_set_ne (Ne.symm i2),askS_ne Q false i3 i4 i5]) hb
 obtain ⟨S2,hc,hK,hR⟩:=h2 _ hP
 have hz:=(h.rz.ask Q false hQ).set (rs':=rs.set p (e.1,r,e.2.2)) (c':=c) (rs_set_ok h.rz.rms.ok hok)
 obtain ⟨L2,hL⟩:=askL_ex L Q
 refine ⟨_,S2,askL [] L Q false,last,rs.set p (e.1,r,e.2.2),c,b,all,h1,(Far.askS Q).trans (.setA _ _),hc,hK.far hP,⟨hz.ref (fun _=>hb hn) (fun _=>set_nn hn _ _) hK,hR,h.ld.ask Q false hQd,by have:=(askL_le (dr:=[]) (L:=L) Q false).2;have:=h.ll;omega,by rw [List.length_set];have:=h.rl;omega,by have:=h.la;omega,fun x hx=>?_,by rw [keys_set he];exact h.nd,by rw [inst_set he r _ hin];exact h.ni,⟨h.bo.1.set he r,dq_ask h.bo.2 _⟩⟩,Stays.set hp he r fun k=>absurd hs k,hRl⟩
 rcases List.mem_or_eq_of_mem_set hx with hx|rfl
 ·rw [hL]
  exact (h.ri x hx).mono (Nat.le_succ n) (Nat.le_refl last) L2
 ·exact hi
theorem done_put (h:Sim n S L last rs c b all) {rd:Int} {p:Nat} {e:Int × Rm × Nat} (hp:at? rs rd=some p) (he:rs[p]? = some e) {fp fr:FuncId} {pa ra:List AVal} {vp vr:AVal} {r:Rm} (hok:r.Ok) (hi:RmI (n+1) last L r) (hs:e.2.1.st≠1→r.meas=e.2.1.meas∧r.st≠1) (hin:r.inst=e.2.1.inst) {Rl:Rs→Nat→Prop} (hRl:Rl (rs.set p (e.1,r,e.2.2)) last)
  (h1:ACall cx fp pa S vp (S.set 8 (.mp (rmE (rs.set p (e.1,r,e.2.2))) c)))
  (h2:∀ T,RefP T 11 10 13 b 1 L last rs all→∃ J,ACall cx fr ra T vr (T.set b (.row (rowC (rs.set p (e.1,r,e.2.2))) 99)++J)):Done n S rd rs Rl fp fr pa ra vp vr:=by
 have hn:rs≠[]:=by rintro rfl;simp at he
 have hb:=h.bfar
 have hP:=h.rf.prog (T:=S.set 8 (.mp (rmE (rs.set p (e.1,r,e.2.2))) c)) (fun i i1 i2 i3 i4 i5=>by rw [List.getElem?_set_ne (Ne.symm i2)]) hb
 obtain ⟨J,hc⟩:=h2 _ hP
 have hK:Kept (S.set 8 (.mp (rmE (rs.set p (e.1,r,e.2.2))) c)) ((S.set 8 (.mp (rmE (rs.set p (e.1,r,e.2.2))) c)).set b (.row (rowC (rs.set p (e.1,r,e.2.2))) 99)++J) 11 10 13 b rs :=
  ⟨by simp,fun i hi _ _ _ i4=>by rw [List.getElem?_append_left (by rw [List.length_set];exact hi),List.getElem?_set_ne (Ne.symm (i4 hn))]⟩
 have hz:=h.rz.set (rs':=rs.set p (e.1,r,e.2.2)) (c':=c) (rs_set_ok h.rz.rms.ok hok)
 refine ⟨_,_,L,last,rs.set p (e.1,r,e.2.2),c,b,all,h1,.setA _ _,hc,hK.far hP,⟨hz.ref (fun _=>hb hn) (fun _=>set_nn hn _ _) hK,(hP.put he hok).more J,h.ld,by have:=h.ll;omega,by rw [List.length_set];have:=h.rl;omega,by have:=h.la;omega,fun x hx=>?_,by rw [keys_set he];exact h.nd,by rw [inst_set he r _ hin];exact h.ni,⟨h.bo.1.set he r,h.bo.2⟩⟩,Stays.set hp he r hs,hRl⟩
 rcases List.mem_or_eq_of_mem_set hx with hx|rfl
 ·have:=(h.ri x hx).mono (Nat.le_succ n) (Nat.le_refl last) []
  rw [List.append_nil] at this
  exact this
 ·exact hi
theorem at_erase {rd:Int} {p:Nat} (hnd:(rs.map (·.1)).Nodup) (hp:at? rs rd=some p):at? (rs.eraseIdx p) rd=none:=by
 obtain ⟨e,he,hk,_⟩:=at_some hp
 unfold at?
 rw [List.findIdx?_eq_none_iff]
 intro x hx
 obtain ⟨i,hi,hxi⟩:=List.getElem_of_mem hx
 rw [List.getElem_eraseIdx] at hxi
 simp only [decide_eq_false_iff_not]
 intro hk2
 have hpl:=at_lt hp
 have key:∀ (j:Nat) (hj:j<rs.length),rs[j]=x→j=p:=fun j hj hxj=>by
  have h1:(rs.map (·.1))[j]'(by simpa using hj)=(rs.map (·.1))[p]'(by simpa using hpl):=by
   rw [List.getElem_map,List.getElem_map,hxj,hk2,(List.getElem?_eq_some_iff.1 he).2,hk]
  exact (List.getElem_inj hnd).1 h1
 have hil:i<rs.length-1:=by rw [List.length_eraseIdx_of_lt hpl] at hi;exact hi
 split at hxi
 ·next h=>have:=key i (by omega) hxi;omega
 ·next h=>have:=key (i+1) (by omega) hxi;omega
theorem done_drop (h:Sim n S L last rs c b all) {rd:Int} {p:Nat} {e:Int × Rm × Nat} (hp:at? rs rd=some p) (he:rs[p]? = some e) {fp fr:FuncId} {pa ra:List AVal} {v:AVal} {Rl:Rs→Nat→Prop} (hRl:Rl (rs.eraseIdx p) last)
  (h1:ACall cx fp pa S v (S.set 8 (.mp (rmE (rs.eraseIdx p)) c)))
  (h2:∀ T,RefP T 11 10 13 b 1 L last rs all→∃ T' b' all',ACall cx fr ra T v T'∧Kept T T' 11 10 13 b rs∧RefP T' 11 10 13 b' 1 L last (rs.eraseIdx p) all'):Done n S rd rs Rl fp fr pa ra v v:=by
 have hn:rs≠[]:=by rintro rfl;simp at he
 have hb:=h.bfar
 have hP:=h.rf.prog (T:=S.set 8 (.mp (rmE (rs.eraseIdx p)) c)) (fun i i1 i2 i3 i4 i5=>by rw [List.getElem?_set_ne (Ne.symm i2)]) hb
 obtain ⟨S2,b',all',hc,hK,hR⟩:=h2 _ hP
 have hz:=h.rz.set (rs':=rs.eraseIdx p) (c':=c) (fun x hx=>h.rz.rms.ok x (List.mem_of_mem_eraseIdx hx))
 have l1:=hz.orc.lt
 have l2:=hz.rms.lt
 have k:=fun i (hi:i<(S.set 8 (.mp (rmE (rs.eraseIdx p)) c)).length) (h1:i≠11) (h2:i≠10) (h3:i≠13) (h4:i≠b)=>hK.ne i hi h1 h2 h3 (fun _=>h4)
 have hz2:RzP S2 9 8 4 3 12 zq true [] L last (rs.eraseIdx p) c:=⟨hz.orc.same (k 4 l1.1 (by decide) (by decide) (by decide) (Ne.symm (hb hn).2.2.1)) (k 3 l1.2.1 (by decide) (by decide) (by decide) (Ne.symm (hb hn).2.2.2.1)) (k 12 l1.2.2 (by decide) (by decide) (by decide) (Ne.symm (hb hn).2.2.2.2)),
  ⟨(k 9 l2.1 (by decide) (by decide) (by decide) (Ne.symm (hb hn).1)).trans hz.rms.bx,(k 8 l2.2 (by decide) (by decide) (by decide) (Ne.symm (hb hn).2.1)).trans hz.rms.mp,hz.rms.ok⟩,hz.ak⟩
 refine ⟨_,S2,L,last,rs.eraseIdx p,c,b',all',h1,.setA _ _,hc,hK.far hP,⟨hz2,hR,h.ld,by have:=h.ll;omega,by have:=(List.length_eraseIdx_le rs p);have:=h.rl;omega,by have:=h.la;omega,fun x hx=>?_,?_,?_,⟨h.bo.1.erase p,h.bo.2⟩⟩,fun p1 e1 _ _ _ p' e' k1 _=>?_,hRl⟩
 ·have:=(h.ri x (List.mem_of_mem_eraseIdx hx)).mono (Nat.le_succ n) (Nat.le_refl last) []
  rw [List.append_nil] at this
  exact this
 ·exact h.nd.sublist ((List.eraseIdx_sublist rs p).map _)
 ·exact h.ni.sublist ((List.eraseIdx_sublist rs p).map _)
 ·rw [at_erase h.nd hp] at k1
  cases k1
theorem crS_app (h:RzP S 9 8 4 3 12 zq true [] L last rs c) (v:List UInt8) (Q:St):crS (S++Q) 9 8 4 3 12 zq true [] L last v=crS S 9 8 4 3 12 zq true [] L last v++Q:=by
 have l2:=h.rms.lt
 have hP0:=h.setLast (last+1)
 have hP1:=hP0.ask (crQ1 v) false rfl
 unfold crS
 rw [List.set_append_left _ _ l2.1,askS_app hP0.orc,askS_app hP1.orc]
theorem done_create (h:Sim n S L last rs c b all) (hn60:n≤100) {rd root:Int} (hr:at? rs rd=none) (h0:0≤rd) (h1:0≤root) (hw:rd<9223372036854775808) {v t:List UInt8} {nodes:Nat} (hv:v.length=32) (ht:t.length=32) :
  ∃ (S1:St) (L':List It) (c':Nat) (R:Rm),S1.length=S.length∧(∀ Q:St,ACall cx 9 [.ptr 9 0,.int .i64 rd,.int .i64 root,.agg (bl v++[.int .u64 nodes]),.agg (bl t)] (S++Q) (.tup [.agg (rmC R),.int .i64 0]) (S1++Q))∧Far S S1 ∧
   (∀ Q:St,∃ (S2:St) (b':Nat) (all':AVal),ACall cx 10 [.ptr 11 0,.int .i64 rd,.int .i64 root,.agg (bl v++[.int .u64 nodes]),.agg (bl t)] (S1++Q) (.tup [.agg (rmC R),.int .i64 0]) S2∧Far (S1++Q) S2∧Sim (n+1) S2 L' (last+1) (rs++[(rd,R,c)]) c' b' all') ∧
   Stays rd rs (rs++[(rd,R,c)])∧R.inst=last+1∧R.ctr=0∧Cts last rs (rs++[(rd,R,c)]) (last+1)∧R.Ok∧R.log.length=1:=by
 have hll:=h.ll
 have hrl:=h.rl
 have hla:=h.la
 have hb:=h.bfar
 have hP1:=crS_P h.rz v
 have hL1:=askL_ex L (crQ1 v)
 obtain ⟨L2,hL1⟩:=hL1
 obtain ⟨L3,hL2⟩:=askL_ex (askL [] L (crQ1 v) false) (crQ2 zq (last+1))
 have hLe:crL zq [] L last v=L++(L2++L3):=by unfold crL;rw [hL2,hL1,List.append_assoc]
 have d1l:=length_askD h.rz.orc (crQ1 v)
 have d2l:(askD [] (askL [] L (crQ1 v) false) (crQ2 zq (last+1))).length=32:=length_askD (h.rz.ask (crQ1 v) false rfl).orc _
 have hRok:(crR zq [] L last root v nodes t).Ok:=newR_ok hv d1l d2l ht
 have hrsok:∀ e∈rs++[(rd,crR zq [] L last root v nodes t,c)],e.2.1.Ok:=fun e he=>by
  rcases List.mem_append.1 he with he|he
  ·exact h.rz.rms.ok e he
  ·rw [List.mem_singleton.1 he];exact hRok
 have hz:=hP1.set (rs':=rs++[(rd,crR zq [] L last root v nodes t,c)]) (c':=c+1) hrsok
 have hne:∀ i,i≠9→i≠8→i≠4→i≠3→i≠12→((crS S 9 8 4 3 12 zq true [] L last v).set 8 (.mp (rmE (rs++[(rd,crR zq [] L last root v nodes t,c)])) (c+1)))[i]? = S[i]?:=fun i i1 i2 i3 i4 i5=>by
  rw [List.getElem?_set_ne (Ne.symm i2)]
  unfold crS
  rw [askS_ne _ _ i3 i4 i5,askS_ne _ _ i3 i4 i5,List.getElem?_set_ne (Ne.symm i1)]
 have hP:=h.rf.prog (T:=(crS S 9 8 4 3 12 zq true [] L last v).set 8 (.mp (rmE (rs++[(rd,crR zq [] L last root v nodes t,c)])) (c+1))) hne hb
 have hlen1:((crS S 9 8 4 3 12 zq true [] L last v).set 8 (.mp (rmE (rs++[(rd,crR zq [] L last root v nodes t,c)])) (c+1))).length=S.length:=by rw [List.length_set,length_crS]
 have hfar1:Far S ((crS S 9 8 4 3 12 zq true [] L last v).set 8 (.mp (rmE (rs++[(rd,crR zq [] L last root v nodes t,c)])) (c+1))):=⟨by rw [hlen1];exact Nat.le_refl _,fun i x hi hx _=>by rw [hne i (by omega) (by omega) (by omega) (by omega) (by omega)];exact hx⟩
 have hch:Chain (askL [] L (crQ1 v) false) zq [begR v] (askD [] L (crQ1 v)):=Chain.grow (L:=L) (log:=[]) (m:=zq) rfl (r:=begR v) ⟨begR_ok hv,.inl rfl⟩ (q:=crQ1 v) rfl
 refine ⟨_,crL zq [] L last v,c+1,crR zq [] L last root v nodes t,hlen1,fun Q=>?_,hfar1,fun Q=>?_,fun p1 e1 k1=>?_,rfl,rfl,⟨Nat.le_succ last,fun x hx=>?_⟩,hRok,rfl⟩
 ·have:=realm_create (h.rz.more Q) (by omega) hr h0 h1 (by omega) (nodes:=nodes) hv ht
  rw [crS_app h.rz,List.set_append_left _ _ (by rw [length_crS];exact h.rz.rms.lt.2)] at this
  exact this
 ·have hPQ:=hP.more Q
  have hzQ:=hz.more Q
  obtain ⟨S2,b',hc,hK,hR⟩:=ref_create hPQ (by omega) h.ld (by omega) hr h0 h1 (by omega) (nodes:=nodes) hv ht c
  have l1:=hzQ.orc.lt
  have l2:=hzQ.rms.lt
  have k:=fun i (hi:i<((crS S 9 8 4 3 12 zq true [] L last v).set 8 (.mp (rmE (rs++[(rd,crR zq [] L last root v nodes t,c)])) (c+1))++Q).length) (h1:i≠11) (h2:i≠10) (h3:i≠13) (h4:rs≠[]→i≠b)=>hK.ne i hi h1 h2 h3 h4
  have hz2:RzP S2 9 8 4 3 12 zq true [] (crL zq [] L last v) (last+1) (rs++[(rd,crR zq [] L last root v nodes t,c)]) (c+1):=⟨hzQ.orc.same (k 4 l1.1 (by decide) (by decide) (by decide) fun hn=>Ne.symm (hb hn).2.2.1) (k 3 l1.2.1 (by decide) (by decide) (by decide) fun hn=>Ne.symm (hb hn).2.2.2.1) (k 12 l1.2.2 (by decide) (by decide) (by decide) fun hn=>Ne.symm (hb hn).2.2.2.2),
   ⟨(k 9 l2.1 (by decide) (by decide) (by decide) fun hn=>Ne.symm (hb hn).1).trans hzQ.rms.bx,(k 8 l2.2 (by decide) (by decide) (by decide) fun hn=>Ne.symm (hb hn).2.1).trans hzQ.rms.mp,hzQ.rms.ok⟩,hzQ.ak⟩
  refine ⟨S2,b',_,hc,hK.far hPQ,⟨hz2,hR,?_,?_,by rw [List.length_append];simp;omega,by omega,fun x hx=>?_,?_,?_,⟨h.bo.1.add _ _ ⟨h0,hw⟩,dq_ask (dq_ask h.bo.2 _) _⟩⟩⟩
  ·exact (h.ld.ask (crQ1 v) false (by show v.length≤_;rw [hv];decide)).ask (crQ2 zq (last+1)) false (by show (putl (last+1) 8).length≤_;rw [putl_length];decide)
  ·have i1:=(askL_le (dr:=[]) (L:=L) (crQ1 v) false).2
   have i2:=(askL_le (dr:=[]) (L:=askL [] L (crQ1 v) false) (crQ2 zq (last+1)) false).2
   show (askL [] (askL [] L (crQ1 v) false) (crQ2 zq (last+1)) false).length≤_
   omega
  ·rcases List.mem_append.1 hx with hx|hx
   ·rw [hLe]
    exact (h.ri x hx).mono (Nat.le_succ n) (Nat.le_succ last) _
   ·rw [List.mem_singleton.1 hx]
    refine ⟨rfl,Int.le_refl 0,Int.natCast_nonneg (n+1),by simp [crR,newR],Nat.zero_le _,.inl rfl,?_,by simp [crR,newR],⟨by simp [crR,newR],Nat.le_refl _⟩⟩
    have:=hch.mono L3
    rw [← hL2] at this
    exact this
  ·rw [List.map_append,List.nodup_append]
   refine ⟨h.nd,by simp,?_⟩
   intro a ha d hd e
   simp only [List.map_cons,List.map_nil,List.mem_singleton] at hd
   obtain ⟨x,hx,hxa⟩:=List.mem_map.1 ha
   obtain ⟨j,hj⟩:=List.mem_iff_getElem?.1 hx
   exact at_none hr hj (by rw [hxa,e,hd])
  ·rw [List.map_append,List.nodup_append]
   refine ⟨h.ni,by simp,?_⟩
   intro a ha d hd e
   simp only [List.map_cons,List.map_nil,List.mem_singleton] at hd
   obtain ⟨x,hx,hxa⟩:=List.mem_map.1 ha
   have:=(h.ri x hx).ins.2
   have hd2:d=last+1:=hd
   omega
 ·rw [hr] at k1
  cases k1
 ·rcases List.mem_append.1 hx with hx|hx
  ·exact .inl ⟨x,hx,rfl,rfl⟩
  ·rw [List.mem_singleton.1 hx]
   exact .inr ⟨Nat.lt_succ_self last,rfl⟩
end
end
end Go.Am
end
section
namespace Go.Am
open Go Go.Proofs
set_option maxHeartbeats 8000000
set_option maxRecDepth 100000
section
attribute [local irreducible] aC aL thenQ blockQ scopeQ ALoop AWp
section
variable {n:Nat} {S:St} {L:List It} {last:Nat} {rs:Rs} {c b:Nat} {all:AVal}
theorem RmI.upd {r r':Rm} (h:RmI n last L r) (e1:r'.nl=r.nl) (e2:r'.log=r.log) (e3:r'.meas=r.meas) (e4:r'.inst=r.inst) (h0:0≤r'.recs) (h1:r'.recs≤(n:Int)+1) (h2:r'.ctr≤n+1) (h3:r'.st=1∨r'.st=2∨r'.st=3):RmI (n+1) last L r' :=
 ⟨e1.trans h.nl,h0,by omega,by rw [e2];have:=h.lg;omega,h2,h3,by rw [e2,e3];exact h.ch,by rw [e2];exact h.ne,by rw [e4];exact h.ins⟩
theorem Rm.Ok.upd {r r':Rm} (h:r.Ok) (e1:r'.nl=r.nl) (e2:r'.log=r.log) (e3:r'.meas=r.meas) (e4:r'.key=r.key) (ht:r'.tree.length=32):r'.Ok :=
 ⟨by rw [e3];exact h.m,by rw [e4];exact h.k,ht,by rw [e2];exact h.l,by rw [e1,e2];exact h.n⟩
theorem done_kill (h:Sim n S L last rs c b all) (hn:n≤100) (rd:Int):∃ er,Done n S rd rs (Cts last rs) 42 43 [.ptr 9 0,.int .i64 rd] [.ptr 11 0,.int .i64 rd] (.int .i64 er) (.int .i64 er):=by
 rcases hr:at? rs rd with _|p
 ·exact ⟨6,done_idle h (Cts.refl last rs) (realm_kill_none h.rz.rms hr) (ref_kill_none h.rf (by have:=h.rl;omega) hr)⟩
 obtain ⟨e,he,hk,_⟩:=at_some hr
 have hi:=h.ri e (List.mem_of_getElem? he)
 have ho:=h.rz.rms.ok e (List.mem_of_getElem? he)
 exact ⟨0,done_put h hr he (r:={ e.2.1 with st:=3 }) (ho.upd rfl rfl rfl rfl ho.t) (hi.upd rfl rfl rfl rfl hi.r0 (by have:=hi.r1;show e.2.1.recs≤_;omega) (by have:=hi.ct;show e.2.1.ctr≤_;omega) (.inr (.inr rfl))) (fun _=>⟨rfl,by show (3:Int)≠1;decide⟩) rfl (Cts.set he _ _ rfl rfl)
  (realm_kill h.rz.rms hr he) (fun T hT=>⟨[],by rw [List.append_nil];exact ref_kill hT (by have:=h.rl;omega) hr he⟩)⟩
theorem done_activate (h:Sim n S L last rs c b all) (hn:n≤100) (rd:Int):∃ er,Done n S rd rs (Cts last rs) 21 41 [.ptr 9 0,.int .i64 rd] [.ptr 11 0,.int .i64 rd] (.int .i64 er) (.int .i64 er):=by
 rcases hr:at? rs rd with _|p
 ·exact ⟨6,done_idle h (Cts.refl last rs) (realm_activate_none h.rz.rms hr) (ref_activate_none h.rf (by have:=h.rl;omega) hr)⟩
 obtain ⟨e,he,hk,_⟩:=at_some hr
 have hi:=h.ri e (List.mem_of_getElem? he)
 have ho:=h.rz.rms.ok e (List.mem_of_getElem? he)
 by_cases hst:e.2.1.st=1
 ·exact ⟨0,done_put h hr he (r:={ e.2.1 with st:=2 }) (ho.upd rfl rfl rfl rfl ho.t) (hi.upd rfl rfl rfl rfl hi.r0 (by have:=hi.r1;show e.2.1.recs≤_;omega) (by have:=hi.ct;show e.2.1.ctr≤_;omega) (.inr (.inl rfl))) (fun _=>⟨rfl,by show (2:Int)≠1;decide⟩) rfl (Cts.set he _ _ rfl rfl)
   (realm_activate h.rz.rms hr he hst) (fun T hT=>⟨[],by rw [List.append_nil];exact ref_activate hT (by have:=h.rl;omega) hr he hst⟩)⟩
 ·exact ⟨7,done_idle h (Cts.refl last rs) (realm_activate_no h.rz.rms hr he hst) (ref_activate_no h.rf (by have:=h.rl;omega) hr he hst)⟩
theorem done_droprec (h:Sim n S L last rs c b all) (hn:n≤100) (rd:Int):∃ er,Done n S rd rs (Cts last rs) 39 40 [.ptr 9 0,.int .i64 rd] [.ptr 11 0,.int .i64 rd] (.int .i64 er) (.int .i64 er):=by
 rcases hr:at? rs rd with _|p
 ·exact ⟨6,done_idle h (Cts.refl last rs) (realm_droprec_none h.rz.rms hr) (ref_droprec_none h.rf (by have:=h.rl;omega) hr)⟩
 obtain ⟨e,he,hk,_⟩:=at_some hr
 have hi:=h.ri e (List.mem_of_getElem? he)
 have ho:=h.rz.rms.ok e (List.mem_of_getElem? he)
 have hr0:=hi.r0
 have hr1:=hi.r1
 by_cases hrc:e.2.1.recs=0
 ·exact ⟨2,done_idle h (Cts.refl last rs) (realm_droprec_no h.rz.rms hr he hrc) (ref_droprec_no h.rf (by have:=h.rl;omega) hr he hrc)⟩
 ·exact ⟨0,done_put h hr he (r:={ e.2.1 with recs:=e.2.1.recs-1 }) (ho.upd rfl rfl rfl rfl ho.t) (hi.upd rfl rfl rfl rfl (by show 0≤e.2.1.recs-1;omega) (by show e.2.1.recs-1≤_;omega) (by have:=hi.ct;show e.2.1.ctr≤_;omega) hi.st) (fun k=>⟨rfl,k⟩) rfl (Cts.set he _ _ rfl rfl)
   (realm_droprec h.rz.rms hr he (by omega) (by omega)) (fun T hT=>⟨[],by rw [List.append_nil];exact ref_droprec hT (by have:=h.rl;omega) hr he (by omega) (by omega)⟩)⟩
theorem done_settree (h:Sim n S L last rs c b all) (hn:n≤100) (rd:Int) {t:List UInt8} (ht:t.length=32):∃ er,Done n S rd rs (Cts last rs) 44 45 [.ptr 9 0,.int .i64 rd,.agg (bl t)] [.ptr 11 0,.int .i64 rd,.agg (bl t)] (.int .i64 er) (.int .i64 er):=by
 rcases hr:at? rs rd with _|p
 ·exact ⟨6,done_idle h (Cts.refl last rs) (realm_settree_none h.rz.rms hr t) (ref_settree_none h.rf (by have:=h.rl;omega) hr ht)⟩
 obtain ⟨e,he,hk,_⟩:=at_some hr
 have hi:=h.ri e (List.mem_of_getElem? he)
 have ho:=h.rz.rms.ok e (List.mem_of_getElem? he)
 exact ⟨0,done_put h hr he (r:={ e.2.1 with tree:=t }) (ho.upd rfl rfl rfl rfl ht) (hi.upd rfl rfl rfl rfl hi.r0 (by have:=hi.r1;show e.2.1.recs≤_;omega) (by have:=hi.ct;show e.2.1.ctr≤_;omega) hi.st) (fun k=>⟨rfl,k⟩) rfl (Cts.set he _ _ rfl rfl)
  (realm_settree h.rz.rms hr he ht) (fun T hT=>⟨_,ref_settree hT (by have:=h.rl;omega) hr he ht⟩)⟩
theorem done_drop_ (h:Sim n S L last rs c b all) (hn:n≤100) (rd:Int):∃ er,Done n S rd rs (Cts last rs) 23 46 [.ptr 9 0,.int .i64 rd] [.ptr 11 0,.int .i64 rd] (.int .i64 er) (.int .i64 er):=by
 rcases hr:at? rs rd with _|p
 ·exact ⟨6,done_idle h (Cts.refl last rs) (realm_drop_none h.rz.rms hr) (ref_drop_none h.rf (by have:=h.rl;omega) hr)⟩
 obtain ⟨e,he,hk,_⟩:=at_some hr
 have hi:=h.ri e (List.mem_of_getElem? he)
 have ho:=h.rz.rms.ok e (List.mem_of_getElem? he)
 have hr0:=hi.r0
 by_cases hrc:e.2.1.recs=0
 ·exact ⟨0,done_drop h hr he ⟨Nat.le_refl _,fun x hx=>.inl ⟨x,List.mem_of_mem_eraseIdx hx,rfl,rfl⟩⟩ (realm_drop h.rz.rms hr he hrc) (fun T hT=>ref_drop hT (by have:=h.rl;omega) hr he hrc)⟩
 ·exact ⟨9,done_idle h (Cts.refl last rs) (realm_drop_no h.rz.rms hr he (by omega)) (ref_drop_no h.rf (by have:=h.rl;omega) hr he (by omega))⟩
theorem done_data (h:Sim n S L last rs c b all) (hn:n≤100) (rd pg:Int) {g:List UInt8} (hg:g.length=128):∃ er,Done n S rd rs (Cts last rs) 22 36 [.ptr 9 0,.int .i64 rd,.int .i64 pg,.agg (bl g)] [.ptr 11 0,.int .i64 rd,.int .i64 pg,.agg (bl g)] (.int .i64 er) (.int .i64 er):=by
 have h0:0<S.length:=by have:=h.rz.rms.lt;omega
 by_cases hpg:pg<0∨128≤pg
 ·exact ⟨2,done_idle h (Cts.refl last rs) (realm_data_page h.rz rd hg hpg) (ref_data_page h0 rd hg hpg)⟩
 obtain ⟨k,rfl⟩:=Int.eq_ofNat_of_zero_le (show 0≤pg by omega)
 have hk:k<128:=by omega
 rcases hr:at? rs rd with _|p
 ·exact ⟨6,done_idle h (Cts.refl last rs) (realm_data_none h.rz hr hg hk) (ref_data_none h.rf (by have:=h.rl;omega) hr hg hk)⟩
 obtain ⟨e,he,_,_⟩:=at_some hr
 have hi:=h.ri e (List.mem_of_getElem? he)
 have ho:=h.rz.rms.ok e (List.mem_of_getElem? he)
 by_cases hst:e.2.1.st=1
 ·have hll:=h.ll
  have hlg:=hi.lg
  have d:=length_askD h.rz.orc (dgQ 2 (parB e.2.1 k g))
  refine ⟨0,done_grow h hr he (Q:=dgQ 2 (parB e.2.1 k g)) rfl (by show (parB e.2.1 k g).length≤_;simp [parB,ho.m,putl_length,hg]) (r:=grw e.2.1 (askD [] L (dgQ 2 (parB e.2.1 k g))) (dataR k g)) (grw_ok ho d (dataR_ok k hg) hi.nl) ?_ hst rfl (Cts.set he _ _ rfl rfl)
   (realm_data h.rz (by omega) hr he hi.nl hst (by omega) hg hk) (fun T hT=>ref_data hT (by omega) h.ld (by have:=h.rl;omega) hr he hst hi.nl (by omega) hg hk)⟩
  exact ⟨hi.nl,hi.r0,by have:=hi.r1;show e.2.1.recs≤_;omega,by show (e.2.1.log++[dataR k g]).length≤_;rw [List.length_append,List.length_singleton];omega,by have:=hi.ct;show e.2.1.ctr≤_;omega,hi.st,
   hi.ch.grow (r:=dataR k g) ⟨dataR_ok k hg,.inr (.inl ⟨rfl,Int.natCast_nonneg k,by show ((k:Nat):Int)<128;omega⟩)⟩ rfl,by simp [grw],hi.ins⟩
 ·exact ⟨7,done_idle h (Cts.refl last rs) (realm_data_state h.rz hr he hst hg hk) (ref_data_state h.rf (by have:=h.rl;omega) hr he hst hg hk)⟩
theorem done_addrec (h:Sim n S L last rs c b all) (hn:n≤100) (rd:Int) {r:Rp} (hq:r.Ok):∃ er,Done n S rd rs (Cts last rs) 37 38 [.ptr 9 0,.int .i64 rd,.agg (rpC r)] [.ptr 11 0,.int .i64 rd,.agg (rpC r)] (.int .i64 er) (.int .i64 er):=by
 rcases hr:at? rs rd with _|p
 ·exact ⟨6,done_idle h (Cts.refl last rs) (realm_addrec_none h.rz hr hq) (ref_addrec_none h.rf (by have:=h.rl;omega) hr hq)⟩
 obtain ⟨e,he,_,_⟩:=at_some hr
 have hi:=h.ri e (List.mem_of_getElem? he)
 have ho:=h.rz.rms.ok e (List.mem_of_getElem? he)
 by_cases hst:e.2.1.st=1
 ·by_cases hm:r.May
  ·have hll:=h.ll
   have hlg:=hi.lg
   have hr0:=hi.r0
   have hr1:=hi.r1
   have d:=length_askD h.rz.orc (dgQ 3 (recP e.2.1 r))
   refine ⟨0,done_grow h hr he (Q:=dgQ 3 (recP e.2.1 r)) rfl (by show (recP e.2.1 r).length≤_;simp [recP,ho.m,length_recG hq]) (r:=grwR e.2.1 (askD [] L (dgQ 3 (recP e.2.1 r))) (recR r)) (grwR_ok ho d (recR_ok hq) hi.nl) ?_ hst rfl (Cts.set he _ _ rfl rfl)
    (realm_addrec h.rz (by omega) hr he hi.nl hst (by omega) ⟨hr0,by omega⟩ hq hm) (fun T hT=>ref_addrec hT (by omega) h.ld (by have:=h.rl;omega) hr he hst hi.nl (by omega) ⟨hr0,by omega⟩ hq hm)⟩
   exact ⟨hi.nl,by show 0≤e.2.1.recs+1;omega,by show e.2.1.recs+1≤_;omega,by show (e.2.1.log++[recR r]).length≤_;rw [List.length_append,List.length_singleton];omega,by have:=hi.ct;show e.2.1.ctr≤_;omega,hi.st,
    hi.ch.grow (r:=recR r) ⟨recR_ok hq,.inr (.inr rfl)⟩ rfl,by simp [grwR,grw],hi.ins⟩
  ·exact ⟨2,done_idle h (Cts.refl last rs) (realm_addrec_arg h.rz hr he hst hq hm) (ref_addrec_arg h.rf (by have:=h.rl;omega) hr he hst hq hm)⟩
 ·exact ⟨7,done_idle h (Cts.refl last rs) (realm_addrec_state h.rz hr he hst hq) (ref_addrec_state h.rf (by have:=h.rl;omega) hr he hst hq)⟩
theorem done_next_none (h:Sim n S L last rs c b all) (hn:n≤100) {rd:Int} (hr:at? rs rd=none):Done n S rd rs (fun rs' last'=>last'=last∧rs'=rs) 13 14 [.ptr 9 0,.int .i64 rd] [.ptr 11 0,.int .i64 rd] (.tup [.int .u64 0,.int .i64 6]) (.tup [.int .u64 0,.int .i64 6]) :=
 done_idle h ⟨rfl,rfl⟩ (realm_next_none h.rz.rms hr) (ref_next_none h.rf (by have:=h.rl;omega) hr)
theorem done_next (h:Sim n S L last rs c b all) (hn:n≤100) {rd:Int} {p:Nat} {e:Int × Rm × Nat} (hr:at? rs rd=some p) (he:rs[p]? = some e):Done n S rd rs (fun rs' last'=>last'=last∧rs'=rs.set p (e.1,{ e.2.1 with ctr:=e.2.1.ctr+1 },e.2.2)) 13 14 [.ptr 9 0,.int .i64 rd] [.ptr 11 0,.int .i64 rd]
  (.tup [.int .u64 (e.2.1.ctr+1:Nat),.int .i64 0]) (.tup [.int .u64 (e.2.1.ctr+1:Nat),.int .i64 0]):=by
 have hi:=h.ri e (List.mem_of_getElem? he)
 have ho:=h.rz.rms.ok e (List.mem_of_getElem? he)
 have hc:=hi.ct
 exact done_put h hr he (r:={ e.2.1 with ctr:=e.2.1.ctr+1 }) (ho.upd rfl rfl rfl rfl ho.t) (hi.upd rfl rfl rfl rfl hi.r0 (by have:=hi.r1;show e.2.1.recs≤_;omega) (by show e.2.1.ctr+1≤_;omega) hi.st) (fun k=>⟨rfl,k⟩) rfl ⟨rfl,rfl⟩
  (realm_next h.rz.rms hr he (by omega)) (fun T hT=>⟨[],by rw [List.append_nil];exact ref_next hT (by have:=h.rl;omega) hr he (by omega)⟩)
end
end
end Go.Am
end
