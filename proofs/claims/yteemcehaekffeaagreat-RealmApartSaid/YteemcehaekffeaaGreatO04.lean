/- Bytes, one list behind the other, at any state: slices.Grow, slices.Concat, the oracle's joined. -/
import Derived.Test.YteemcehaekffeaaGreatP01
import Derived.Test.YteemcehaekffeaaGreatAmDeep
set_option linter.unusedVariables false
set_option linter.unusedSimpArgs false
section
namespace Go.Am
open Go Go.Proofs
set_option maxHeartbeats 8000000
set_option maxRecDepth 100000
section
attribute [local irreducible] aC aL thenQ blockQ scopeQ ALoop AWp
theorem cells_view (i o n c:Nat):(AVal.view i o n c).cells=[.view i o n c]:=rfl
attribute [go_sem] cells_view aCap aAppend0
def Part (S:St) (v:AVal) (b:List UInt8):Prop :=
 (∃ nl,v = .sl 1 nl (bl b) .any)∨∃ i off c cs t,v = .view i off b.length c∧S[i]? = some (.cells cs t)∧(cs.drop off).take b.length=bl b∧off+b.length≤cs.length
theorem Part.more {S:St} {v:AVal} {b:List UInt8} (h:Part S v b) (R:St):Part (S++R) v b:=by
 rcases h with h|⟨i,off,c,cs,t,h1,h2,h3,h4⟩
 ·exact .inl h
 ·exact .inr ⟨i,off,c,cs,t,h1,by rw [List.getElem?_append_left (List.getElem?_eq_some_iff.1 h2).1];exact h2,h3,h4⟩
def Parts (S:St) (vs:List AVal) (bs:List (List UInt8)):Prop:=vs.length=bs.length∧∀ k,k<vs.length→Part S (vs.getD k .any) (bs.getD k [])
def upTo (bs:List (List UInt8)) (k:Nat):List UInt8:=(bs.take k).flatten
theorem upTo_succ {bs:List (List UInt8)} {k:Nat} (h:k<bs.length):upTo bs (k+1)=upTo bs k++bs.getD k []:=by
 unfold upTo
 rw [List.take_succ_eq_append_getElem h,List.flatten_append]
 simp [List.getD,h]
theorem upTo_le (bs:List (List UInt8)) (k:Nat):(upTo bs k).length≤bs.flatten.length:=by
 unfold upTo
 have h:=congrArg (fun l=>(List.flatten l).length) (List.take_append_drop k bs)
 simp only [List.flatten_append,List.length_append] at h
 omega
theorem grow_nil {S:St} (n:Nat) (h0:0<n) (hn:n≤1000000000):ACall cx 107 [.sl 1 true [] .any,.int .i64 (n:Nat)] S (.sl 1 false [] (.grow S.length)) (S++[.grow 0 1 5]):=by
 have h1:¬ ((n:Nat):Int)<0:=by omega
 have h2:(0:Int)<((n:Nat):Int):=by omega
 refine oA lq107 ?_
 have F:=(pk2 @h1 @h2)
 repeat' (first|refine st F ?_|(refine cp F ?_ ?_<;>intro h)|refine zT F ?_ ?_)
 all_goals try exact cl F
 all_goals try simp
 all_goals try omega
theorem concat {S:St} {vs:List AVal} {bs:List (List UInt8)} (hp:Parts S vs bs) (nl:Bool) (tg:Tag) (hv:vs.length≤1000) (h0:0<bs.flatten.length) (hb:bs.flatten.length≤1000000000) :
  ACall cx 89 [.sl 1 nl vs tg] S (.sl 1 false (bl bs.flatten) (.grow S.length)) (S++[.grow bs.flatten.length 1 5]):=by
 obtain ⟨hl,hp⟩:=hp
 have hg:=grow_nil (S:=S) bs.flatten.length h0 hb
 have hfl:upTo bs vs.length=bs.flatten:=by unfold upTo;rw [hl,List.take_length]
 refine oA lq89 ?_
 refine st True.intro ?_
 ·refine loop_rule (cxOk.wp _ _) (σ:=Nat) (fun k=>[(11,.int .i64 k),(10,.int .i64 vs.length),(9,.sl 1 nl vs tg),(3,.int .i64 (upTo bs k).length),(0,.sl 1 nl vs tg)])
   (fun _=>S) (fun k=>vs.length-k) (fun k=>k≤vs.length) 0 (GStep.refl _ _) ⟨Nat.zero_le _,Sub.of_all (by simp [Fr.get,frame0,upTo]),rfl⟩ ?_
  intro k hk
  have hle:=upTo_le bs k
  by_cases hlt:k<vs.length
  ·have hlt':((k:Nat):Int)<(vs.length:Int):=by omega
   have hs:=upTo_succ (bs:=bs) (k:=k) (by omega)
   have hle2:=upTo_le bs (k+1)
   have hq:=hp k hlt
   rw [hs,List.length_append] at hle2
   have hn:¬ ((upTo bs k).length:Int)+((bs.getD k []).length:Int)<0:=by omega
   generalize bs.getD k []=b at *
   rcases hq with ⟨nl',g⟩|⟨i,off,c,cs,t,g,g2,g3,g4⟩
   all_goals
    have F:=(pk3 @hlt' @g @hn)
    repeat' (first|refine st F ?_|(refine cp F ?_ ?_<;>intro h)|refine zT F ?_ ?_)
    all_goals try exact cl F
    all_goals try (exact ⟨k+1,by omega,Sub.of_all (by simp [Fr.get,hs]),rfl,by omega⟩)
    all_goals try simp
    all_goals try omega
  ·have hk2:k=vs.length:=by omega
   subst hk2
   rw [hfl]
   refine st1 True.intro hg ?_
   ·refine loop_rule (cxOk.wp _ _) (σ:=Nat) (fun k=>[(27,.int .i64 k),(26,.int .i64 vs.length),(25,.sl 1 nl vs tg),(6,.sl 1 false (bl (upTo bs k)) (.grow S.length)),(0,.sl 1 nl vs tg)])
     (fun k=>S++[.grow (upTo bs k).length 1 5]) (fun k=>vs.length-k) (fun k=>k≤vs.length) 0 (GStep.refl _ _) ⟨Nat.zero_le _,Sub.of_all (by simp [Fr.get,frame0,upTo,bl]),by simp [upTo]⟩ ?_
    intro k hk
    have hle:=upTo_le bs k
    by_cases hlt:k<vs.length
    ·have hlt':((k:Nat):Int)<(vs.length:Int):=by omega
     have hs:=upTo_succ (bs:=bs) (k:=k) (by omega)
     have hle2:=upTo_le bs (k+1)
     have hq:=hp k hlt
     rw [hs,List.length_append] at hle2
     generalize bs.getD k []=b at *
     rcases hq with ⟨nl',g⟩|⟨i,off,c,cs,t,g,g2,g3,g4⟩
     ·have F:=(pk3 @hlt' @g @append_bl)
      repeat' (first|refine st F ?_|(refine cp F ?_ ?_<;>intro h))
      all_goals try exact cl F
      all_goals try (exact ⟨k+1,by omega,Sub.of_all (by simp [Fr.get,hs,append_bl]),by simp [hs],by omega⟩)
      all_goals try simp
      all_goals try omega
     ·have hi:i<S.length:=(List.getElem?_eq_some_iff.1 g2).1
      have F:=(pk5 @hlt' @g @g2 @g3 @append_bl)
      repeat' (first|refine st F ?_|(refine cp F ?_ ?_<;>intro h)|refine zT F ?_ ?_)
      all_goals try exact cl F
      all_goals try (exact ⟨k+1,by omega,Sub.of_all (by simp [Fr.get,hs,append_bl]),by simp [hs],by omega⟩)
      all_goals try simp
      all_goals (rw [g3];exact ⟨⟨g4,fun c hc=>bl_one b c hc⟩,by omega,by omega⟩)
    ·have hk2:k=vs.length:=by omega
     subst hk2
     rw [hfl]
     exact wk True.intro
   all_goals first|trivial|omega|simp
 all_goals first|trivial|omega|simp
theorem joined {S:St} {vs:List AVal} {bs:List (List UInt8)} (hS:0<S.length) (hp:Parts S vs bs) (nl:Bool) (tg:Tag) (hv:vs.length≤1000) (h0:0<bs.flatten.length) (hb:bs.flatten.length≤1000000000) :
  ACall cx 65 [.sl 1 nl vs tg] S (.sl 1 false (bl bs.flatten) .any) S:=by
 have hc:=concat hp nl tg hv h0 hb
 have hw:ACall cx 65 [.sl 1 nl vs tg] S (.sl 1 false (bl bs.flatten) (.grow S.length)) (S++[.grow bs.flatten.length 1 5]):=by
  refine oA lq65 ?_
  exact wk1 True.intro hc
 exact (hw.wk (r':=.sl 1 false (bl bs.flatten) .any) (Wks_refl _) (by simp [Wk])).keep cxG hS rfl (by simp [bel,bels_bl,belT]) fun i x hx=>.inl hx
end
end Go.Am
end
section
namespace Go.Am
open Go Go.Proofs
set_option maxHeartbeats 8000000
set_option maxRecDepth 100000
section
attribute [local irreducible] aC aL thenQ blockQ scopeQ ALoop AWp
structure OrcP (S:St) (o k l:Nat) (m:List UInt8) (nd:Bool) (dr:List (List UInt8)) (L:List It):Prop where
 bx:S[o]? = some (.cells (orC m nd dr L.length k L l) 108)
 mp:S[k]? = some (.mp (knE L) L.length)
 lg:S[l]? = some (.grow L.length 67 114)
 m32:m.length=32
 dr32:∀ x∈dr,x.length=32
 drl:dr.length≤1000000
 wf:WfL L
def findQ (L:List It) (q:Qn):Option Nat:=L.findIdx? fun i=>decide (i.q=q)
def askD (dr:List (List UInt8)) (L:List It) (q:Qn):List UInt8:=match findQ L q with
 |some p=>(L.getD p ⟨q,false,[]⟩).d
 |none=>drawN dr L.length
def askL (dr:List (List UInt8)) (L:List It) (q:Qn) (nl:Bool):List It:=match findQ L q with
 |some _=>L
 |none=>L++[⟨q,nl,drawN dr L.length⟩]
def askS (S:St) (o k l:Nat) (m:List UInt8) (nd:Bool) (dr:List (List UInt8)) (L:List It) (q:Qn) (nl:Bool):St:=match findQ L q with
 |some _=>S
 |none=>((S.set k (.mp (knE (L++[⟨q,nl,drawN dr L.length⟩])) (L.length+1))).set l (.grow (L.length+1) 67 114)).set o (.cells (orC m nd dr ((L.length:Int)+1) k (L++[⟨q,nl,drawN dr L.length⟩]) l) 108)
section
variable {S:St} {o k l:Nat} {m:List UInt8} {nd:Bool} {dr:List (List UInt8)} {L:List It}
theorem OrcP.ne (h:OrcP S o k l m nd dr L):o≠k∧o≠l∧k≠l:=by
 refine ⟨?_,?_,?_⟩
 ·rintro rfl;have:=h.bx;rw [h.mp] at this;cases this
 ·rintro rfl;have:=h.bx;rw [h.lg] at this;cases this
 ·rintro rfl;have:=h.mp;rw [h.lg] at this;cases this
theorem OrcP.lt (h:OrcP S o k l m nd dr L):o<S.length∧k<S.length∧l<S.length :=
 ⟨(List.getElem?_eq_some_iff.1 h.bx).1,(List.getElem?_eq_some_iff.1 h.mp).1,(List.getElem?_eq_some_iff.1 h.lg).1⟩
theorem OrcP.more (h:OrcP S o k l m nd dr L) (R:St):OrcP (S++R) o k l m nd dr L:=by
 obtain ⟨h1,h2,h3⟩:=h.lt
 exact ⟨by rw [List.getElem?_append_left h1];exact h.bx,by rw [List.getElem?_append_left h2];exact h.mp,by rw [List.getElem?_append_left h3];exact h.lg,h.m32,h.dr32,h.drl,h.wf⟩
theorem OrcP.same (h:OrcP S o k l m nd dr L) {T:St} (h1:T[o]? = S[o]?) (h2:T[k]? = S[k]?) (h3:T[l]? = S[l]?):OrcP T o k l m nd dr L :=
 ⟨h1.trans h.bx,h2.trans h.mp,h3.trans h.lg,h.m32,h.dr32,h.drl,h.wf⟩
theorem length_askS (q:Qn) (nl:Bool):(askS S o k l m nd dr L q nl).length=S.length:=by
 unfold askS
 split<;>simp
theorem askS_ne (q:Qn) (nl:Bool) {i:Nat} (h1:i≠o) (h2:i≠k) (h3:i≠l):(askS S o k l m nd dr L q nl)[i]? = S[i]?:=by
 unfold askS
 split
 ·rfl
 ·rw [List.getElem?_set_ne (Ne.symm h1),List.getElem?_set_ne (Ne.symm h3),List.getElem?_set_ne (Ne.symm h2)]
theorem askS_app (h:OrcP S o k l m nd dr L) (q:Qn) (nl:Bool) (R:St):askS (S++R) o k l m nd dr L q nl=askS S o k l m nd dr L q nl++R:=by
 obtain ⟨h1,h2,h3⟩:=h.lt
 unfold askS
 split
 ·rfl
 ·rw [List.set_append_left _ _ h2,List.set_append_left _ _ (by simpa using h3),List.set_append_left _ _ (by simpa using h1)]
theorem length_askD (h:OrcP S o k l m nd dr L) (q:Qn):(askD dr L q).length=32:=by
 unfold askD
 split
 ·next p hp =>
  have hl:p<L.length:=(List.findIdx?_eq_some_iff_getElem.1 hp).1
  rw [show L.getD p ⟨q,false,[]⟩=L[p] by simp [List.getD,hl]]
  exact (h.wf _ (List.getElem_mem hl)).2
 ·exact length_drawN h.dr32 _
theorem askL_le (q:Qn) (nl:Bool):L.length≤(askL dr L q nl).length∧(askL dr L q nl).length≤L.length+1:=by
 unfold askL
 split<;>simp
theorem OrcP.ask (h:OrcP S o k l m nd dr L) (q:Qn) (nl:Bool) (hq:q.key.length=32):OrcP (askS S o k l m nd dr L q nl) o k l m nd dr (askL dr L q nl):=by
 obtain ⟨h1,h2,h3⟩:=h.lt
 obtain ⟨n1,n2,n3⟩:=h.ne
 unfold askS askL
 split
 ·exact h
 ·refine ⟨?_,?_,?_,h.m32,h.dr32,h.drl,h.wf.app ⟨hq,length_drawN h.dr32 _⟩⟩
  ·rw [List.getElem?_set_self (by simpa using h1)]
   simp
  ·rw [List.getElem?_set_ne n1,List.getElem?_set_ne (Ne.symm n3),List.getElem?_set_self h2]
   simp
  ·rw [List.getElem?_set_ne n2,List.getElem?_set_self (by simpa using h3)]
   simp
theorem oracle_answer (h:OrcP S o k l m nd dr L) (hl:L.length≤900000) (q:Qn) (nl:Bool) (hq:q.key.length=32) (hql:q.data.length≤1000000000) (hnl:nl=true→q.data=[]) (fn:AVal) :
  ACall cx 84 [.ptr o 0,.agg (qC q nl),fn] S (.agg (bl (askD dr L q))) (askS S o k l m nd dr L q nl):=by
 unfold askD askS
 split
 ·next p hp =>
  have hlp:p<L.length:=(List.findIdx?_eq_some_iff_getElem.1 hp).1
  exact answer_hit h.bx h.mp h.m32 hl h.wf q nl hq hql fn hp (by simp [List.getD,hlp])
 ·next hp=>exact answer_miss h.bx h.mp h.lg h.m32 h.dr32 h.drl hl h.wf q nl hq hql hnl fn hp
theorem oracle_there (h:OrcP S o k l m nd dr L):ACall cx 50 [.ptr o 0] S (.bool true) S:=by
 have hS:=h.bx
 have hm:=h.m32
 have ho:=h.lt.1
 have j1:=fun n r=>o_drop hm n r
 unfold orC at hS
 refine oA lq50 ?_
 exact wk (pk2 @hS @j1)
structure Qn.May (q:Qn):Prop where
 k1:1≤q.k
 k2:q.k≤3
 d1:1≤q.dom
 d2:q.dom≤16
 z:q.k=1→q.key=List.replicate 32 0
 l:q.key.length=32
theorem oracle_may (q:Qn) (nl:Bool) (h:q.May):APure cx 83 [.agg (qC q nl)] (.bool true):=by
 obtain ⟨k1,k2,d1,d2,z,hl⟩:=h
 have j1:=fun n r=>o_drop hl n r
 have j2:=fun r=>o_take hl r
 have qone:∀ c∈bl q.key++[.int .i64 q.dom,.sl 1 nl (bl q.data) .any],c.one=true:=fun c hc=>q_one q nl c (List.mem_cons_of_mem _ hc)
 have k3:q.k≤4:=by omega
 have z1:skbs (bl q.key) (bl (List.replicate 32 0))=true:=skbs_by (by simp [hl])
 unfold qC
 by_cases hk:q.k=1
 ·have hbe:(bl q.key=bl [0,0,0,0,0,0,0,0,0,0,0,0,0,0,0,0,0,0,0,0,0,0,0,0,0,0,0,0,0,0,0,0])=True:=eq_true (by rw [z hk];rfl)
  refine oP lq83 ?_
  have F:=(pk8 @j1 @j2 @k1 @k3 @d1 @d2 @hk @hbe)
  repeat' (first|refine st F ?_|(refine cp F ?_ ?_<;>intro h)|refine zT F ?_ ?_)
  all_goals try exact cl True.intro
  all_goals try (exact ⟨by kernel_rfl,by kernel_rfl,z1,z1⟩)
  all_goals try (simp (disch:=first|omega|(simp only [go_sem];omega)) only [go_sem,seval,reduceCtorEq,hk,j2,hbe])
  all_goals try (exact ⟨by kernel_rfl,by kernel_rfl,z1,by kernel_rfl⟩)
  all_goals try simp
  all_goals try exact q_one q nl
  all_goals try exact qone
  all_goals try simp [T5]
 ·refine oP lq83 ?_
  have F:=(pk6 @j1 @k1 @k3 @d1 @d2 @hk)
  repeat' (first|refine st F ?_|(refine cp F ?_ ?_<;>intro h)|refine zT F ?_ ?_)
  all_goals try exact cl True.intro
  all_goals try (simp (disch:=first|omega|(simp only [go_sem];omega)) only [go_sem,seval,reduceCtorEq,hk])
  all_goals try simp
  all_goals try exact q_one q nl
  all_goals try exact qone
theorem oracle_ask (h:OrcP S o k l m nd dr L) (hl:L.length≤900000) (q:Qn) (nl:Bool) (hq:q.May) (hql:q.data.length≤1000000000) (hnl:nl=true→q.data=[]) :
  ACall cx 64 [.ptr o 0,.agg (qC q nl)] S (.tup [.agg (bl (askD dr L q)),.int .i64 0]) (askS S o k l m nd dr L q nl):=by
 have hw:ACall cx 64 [.ptr o 0,.agg (qC q nl)] S (.tup [.agg (bl (askD dr L q)),.int .i64 0]) (askS S o k l m nd dr L q nl++[.cells (qC q nl) 112,.cells (bl (askD dr L q)) 34]):=by
  have hA:∀ (R:St) (fn:AVal),ACall cx 84 [.ptr o 0,.agg (qC q nl),fn] (S++R) (.agg (bl (askD dr L q))) (askS S o k l m nd dr L q nl++R):=fun R fn=>by
   rw [← askS_app h]
   exact oracle_answer (h.more R) hl q nl hq.l hql hnl fn
  have hT:=fun R:St=>oracle_there (h.more R)
  have hM:=oracle_may q nl hq
  have hlen:=length_askS (S:=S) (o:=o) (k:=k) (l:=l) (m:=m) (nd:=nd) (dr:=dr) (L:=L) q nl
  have hx:=length_askD h q
  have k2:=hq.k2
  have k4:¬ q.k=4:=by omega
  generalize askS S o k l m nd dr L q nl=S1 at *
  generalize askD dr L q=x at *
  have j4:(bl x).take 32=bl x:=List.take_of_length_le (by rw [length_bl];omega)
  have j5:x.take 32=x:=List.take_of_length_le (by omega)
  have j6:∀ a b:AVal,(bl q.key++[a,b]).take 34=bl q.key++[a,b]:=fun a b=>List.take_of_length_le (by rw [List.length_append,length_bl,hq.l];simp)
  have hql':=hq.l
  unfold qC at *
  refine oA lq64 ?_
  have F:=(pk8 @hlen @j4 @j5 @j6 @hx @hql' @k4 @o_put0)
  repeat' (first|refine st3 F hT hM hA ?_|(refine cp F ?_ ?_<;>intro h)|refine zT F ?_ ?_)
  all_goals try exact cl F
  all_goals try simp
  all_goals (rintro c (hc|rfl|rfl);exact bl_one _ _ hc;rfl;rfl)
 obtain ⟨h1,h2,h3⟩:=h.lt
 have hP:=h.ask q nl hq.l
 refine hw.keep cxG (by omega) (length_askS q nl) (by simp [bel,bels,bels_bl]) fun i x' hx'=>?_
 by_cases e1:i=o
 ·subst e1
  rw [hP.bx] at hx'
  rw [← Option.some.inj hx']
  right
  simp [belB,orC,bels,bel,bels_bl,bels_app,bels_gls_bl,bels_gls_it,belT,blt_iff,h2,h3]
 ·by_cases e2:i=k
  ·subst e2
   rw [hP.mp] at hx'
   rw [← Option.some.inj hx']
   right
   refine belM_iff fun e he=>?_
   obtain ⟨p,hp,rfl⟩:=List.mem_map.1 he
   exact ⟨by simp [bel,keyC,bels,bels_app,bels_bl],rfl⟩
  ·by_cases e3:i=l
   ·subst e3
    rw [hP.lg] at hx'
    rw [← Option.some.inj hx']
    exact .inr rfl
   ·rw [askS_ne q nl e1 e2 e3] at hx'
    exact .inl hx'
end
end
end Go.Am
end
section
namespace Go.Am
open Go Go.Proofs
set_option maxHeartbeats 8000000
set_option maxRecDepth 100000
section
attribute [local irreducible] aC aL thenQ blockQ scopeQ ALoop AWp
section
variable {S:St} {o k l:Nat} {m:List UInt8} {nd:Bool} {dr:List (List UInt8)} {L:List It}
theorem OrcP.belB (h:OrcP S o k l m nd dr L) {i:Nat} {x:ABox} (hi:i=o∨i=k∨i=l) (hx:S[i]? = some x):belB S.length x=true:=by
 obtain ⟨h1,h2,h3⟩:=h.lt
 rcases hi with rfl|rfl|rfl
 ·rw [h.bx] at hx
  rw [← Option.some.inj hx]
  simp [Go.Am.belB,orC,bels,bel,bels_bl,bels_app,bels_gls_bl,bels_gls_it,belT,blt_iff,h2,h3]
 ·rw [h.mp] at hx
  rw [← Option.some.inj hx]
  refine belM_iff fun e he=>?_
  obtain ⟨p,hp,rfl⟩:=List.mem_map.1 he
  exact ⟨by simp [bel,keyC,bels,bels_app,bels_bl],rfl⟩
 ·rw [h.lg] at hx
  rw [← Option.some.inj hx]
  rfl
theorem OrcP.keep (h:OrcP S o k l m nd dr L) {f:FuncId} {args:List AVal} {r:AVal} {J:St} (q:Qn) (nl:Bool) (hq:q.key.length=32) (hw:ACall cx f args S r (askS S o k l m nd dr L q nl++J)) (hr:bel S.length r=true) :
  ACall cx f args S r (askS S o k l m nd dr L q nl):=by
 have hP:=h.ask q nl hq
 have hlen:=length_askS (S:=S) (o:=o) (k:=k) (l:=l) (m:=m) (nd:=nd) (dr:=dr) (L:=L) q nl
 refine hw.keep cxG (by have:=h.lt;omega) hlen hr fun i x hx=>?_
 by_cases e:i=o∨i=k∨i=l
 ·right
  rw [← hlen]
  exact hP.belB e hx
 ·rw [askS_ne q nl (by omega) (by omega) (by omega)] at hx
  exact .inl hx
theorem Parts.more {S:St} {vs:List AVal} {bs:List (List UInt8)} (h:Parts S vs bs) (R:St):Parts (S++R) vs bs:=⟨h.1,fun k hk=>(h.2 k hk).more R⟩
def zq:List UInt8:=[0,0,0,0,0,0,0,0,0,0,0,0,0,0,0,0,0,0,0,0,0,0,0,0,0,0,0,0,0,0,0,0]
theorem length_zq:zq.length=32:=rfl
theorem put_z (n:Nat) (r cs:List AVal) (hn:n+cs.length≤r.length):putCells (bl [0,0,0,0,0,0,0,0,0,0,0,0,0,0,0,0,0,0,0,0,0,0,0,0,0,0,0,0,0,0,0,0]++r) (n+32) cs=bl [0,0,0,0,0,0,0,0,0,0,0,0,0,0,0,0,0,0,0,0,0,0,0,0,0,0,0,0,0,0,0,0]++putCells r n cs:=o_put (m:=[0,0,0,0,0,0,0,0,0,0,0,0,0,0,0,0,0,0,0,0,0,0,0,0,0,0,0,0,0,0,0,0]) rfl n r cs hn
def dgQ (dom:Int) (b:List UInt8):Qn:=⟨1,zq,dom,b⟩
def kyQ (m:List UInt8) (dom:Int) (b:List UInt8):Qn:=⟨3,m,dom,b⟩
theorem dgQ_may {dom:Int} (b:List UInt8) (h1:1≤dom) (h2:dom≤16):(dgQ dom b).May:=⟨by simp [dgQ],by simp [dgQ],h1,h2,fun _=>rfl,rfl⟩
theorem kyQ_may {m:List UInt8} {dom:Int} (b:List UInt8) (hm:m.length=32) (h1:1≤dom) (h2:dom≤16):(kyQ m dom b).May:=⟨by simp [kyQ],by simp [kyQ],h1,h2,fun h=>by simp [kyQ] at h,hm⟩
theorem qC_dg (dom:Int) (b:List UInt8) (nl:Bool):qC (dgQ dom b) nl = .int .i64 1::(bl zq++[.int .i64 dom,.sl 1 nl (bl b) .any]):=rfl
theorem qC_ky (m:List UInt8) (dom:Int) (b:List UInt8) (nl:Bool):qC (kyQ m dom b) nl = .int .i64 3::(bl m++[.int .i64 dom,.sl 1 nl (bl b) .any]):=rfl
theorem oracle_digest (h:OrcP S o k l m nd dr L) (hl:L.length≤900000) {dom:Int} (h1:1≤dom) (h2:dom≤16) {vs:List AVal} {bs:List (List UInt8)} (hp:Parts S vs bs) (nl:Bool) (tg:Tag) (hv:vs.length≤1000) (h0:0<bs.flatten.length) (hb:bs.flatten.length≤1000000000) :
  ACall cx 30 [.ptr o 0,.int .i64 dom,.sl 1 nl vs tg] S (.tup [.agg (bl (askD dr L (dgQ dom bs.flatten))),.int .i64 0]) (askS S o k l m nd dr L (dgQ dom bs.flatten) false):=by
 have hq:=dgQ_may bs.flatten h1 h2
 have hx:=length_askD h (dgQ dom bs.flatten)
 have hw:ACall cx 30 [.ptr o 0,.int .i64 dom,.sl 1 nl vs tg] S (.tup [.agg (bl (askD dr L (dgQ dom bs.flatten))),.int .i64 0]) (askS S o k l m nd dr L (dgQ dom bs.flatten) false++[.cells (bl (askD dr L (dgQ dom bs.flatten))) 34]):=by
  have hJ:=fun R:St=>joined (S:=S++R) (by have:=h.lt;simp;omega) (hp.more R) nl tg hv h0 hb
  have hA:∀ (R:St),ACall cx 64 [.ptr o 0,.agg (qC (dgQ dom bs.flatten) false)] (S++R) (.tup [.agg (bl (askD dr L (dgQ dom bs.flatten))),.int .i64 0]) (askS S o k l m nd dr L (dgQ dom bs.flatten) false++R):=fun R=>by
   rw [← askS_app h]
   exact oracle_ask (h.more R) hl _ _ hq hb (by simp)
  have hlen:=length_askS (S:=S) (o:=o) (k:=k) (l:=l) (m:=m) (nd:=nd) (dr:=dr) (L:=L) (dgQ dom bs.flatten) false
  rw [qC_dg] at hA
  unfold zq at hA
  have hz:(bl [0,0,0,0,0,0,0,0,0,0,0,0,0,0,0,0,0,0,0,0,0,0,0,0,0,0,0,0,0,0,0,0]:List AVal).length=32:=rfl
  generalize askS S o k l m nd dr L (dgQ dom bs.flatten) false=S1 at *
  generalize askD dr L (dgQ dom bs.flatten)=x at *
  generalize bs.flatten=b at *
  refine oA lq30 ?_
  have F:=(pk4 @hlen @hx @hz @put_z)
  repeat' (first|refine st2 F hJ hA ?_|(refine cp F ?_ ?_<;>intro h)|refine zT F ?_ ?_)
  all_goals try exact cl True.intro
  all_goals try (simp (disch:=first|omega|(simp only [go_sem];omega)) only [go_sem,seval,reduceCtorEq,hlen,hx,o_put0])
  all_goals try simp [hx]
  all_goals try exact (okc_sl _ _ _ _).2 trivial
  all_goals try rw [List.take_of_length_le (by omega)]
 exact h.keep _ _ hq.l hw (by simp [bel,bels,bels_bl])
theorem oracle_key (h:OrcP S o k l m nd dr L) (hl:L.length≤900000) {dom:Int} (h1:1≤dom) (h2:dom≤16) {vs:List AVal} {bs:List (List UInt8)} (hp:Parts S vs bs) (nl:Bool) (tg:Tag) (hv:vs.length≤1000) (h0:0<bs.flatten.length) (hb:bs.flatten.length≤1000000000) :
  ACall cx 31 [.ptr o 0,.int .i64 dom,.sl 1 nl vs tg] S (.tup [.agg (bl (askD dr L (kyQ m dom bs.flatten))),.int .i64 0]) (askS S o k l m nd dr L (kyQ m dom bs.flatten) false):=by
 have hq:=kyQ_may bs.flatten h.m32 h1 h2
 have hx:=length_askD h (kyQ m dom bs.flatten)
 have hw:ACall cx 31 [.ptr o 0,.int .i64 dom,.sl 1 nl vs tg] S (.tup [.agg (bl (askD dr L (kyQ m dom bs.flatten))),.int .i64 0]) (askS S o k l m nd dr L (kyQ m dom bs.flatten) false++[.cells (bl (askD dr L (kyQ m dom bs.flatten))) 34]):=by
  have hT:=fun R:St=>oracle_there (h.more R)
  have hJ:=fun R:St=>joined (S:=S++R) (by have:=h.lt;simp;omega) (hp.more R) nl tg hv h0 hb
  have hA:∀ (R:St),ACall cx 64 [.ptr o 0,.agg (qC (kyQ m dom bs.flatten) false)] (S++R) (.tup [.agg (bl (askD dr L (kyQ m dom bs.flatten))),.int .i64 0]) (askS S o k l m nd dr L (kyQ m dom bs.flatten) false++R):=fun R=>by
   rw [← askS_app h]
   exact oracle_ask (h.more R) hl _ _ hq hb (by simp)
  have hlen:=length_askS (S:=S) (o:=o) (k:=k) (l:=l) (m:=m) (nd:=nd) (dr:=dr) (L:=L) (kyQ m dom bs.flatten) false
  rw [qC_ky] at hA
  have hz:(bl [0,0,0,0,0,0,0,0,0,0,0,0,0,0,0,0,0,0,0,0,0,0,0,0,0,0,0,0,0,0,0,0]:List AVal).length=32:=rfl
  have hn:(bl m).length=32:=by rw [length_bl];exact h.m32
  have hpm:=fun n r cs hh=>o_put (m:=m) h.m32 n r cs hh
  have hB:=h.bx
  have ho:=h.lt.1
  have hm:=h.m32
  unfold orC at hB
  have j1:=fun n r=>o_drop hm n r
  have j2:=fun r=>o_take hm r
  generalize askS S o k l m nd dr L (kyQ m dom bs.flatten) false=S1 at *
  generalize askD dr L (kyQ m dom bs.flatten)=x at *
  generalize bs.flatten=b at *
  refine oA lq31 ?_
  have F:=(pk12 @hlen @hx @hm @hB @j1 @j2 @hz @hn @put_z @hpm @length_bl (pk2 h.m32 @o_putP))
  repeat' (first|refine st1 F hT ?_|(refine cp F ?_ ?_<;>intro h)|refine zT F ?_ ?_|refine mLT F ?_ ?_|refine mUT F ?_ ?_|refine mDT F ?_ ?_|(refine gP F ?_ ?_<;>(intro h;first|(exfalso;omega)|(simp only [h,decide_true,decide_false,not_true,not_false_iff])))|(refine gN F ?_ ?_<;>(intro h;first|(exfalso;omega)|(simp only [h,decide_true,decide_false,not_true,not_false_iff]))))
  refine aC_regB (U:=[(some 16,some 19)]) rfl [(some 16,o)] ?_
  have F:=(pk12 @hlen @hx @hm @hB @j1 @j2 @hz @hn @put_z @hpm @length_bl (pk3 h.m32 @o_putP @mem_1))
  repeat' (first|refine sb2 F hJ hA ?_|refine bST F ?_ ?_|refine bWT F ?_ ?_)
  have F:=(pk2 @hlen @hx)
  repeat' (first|refine st F ?_|(refine cp F ?_ ?_<;>intro h)|refine zT F ?_ ?_|refine mLT F ?_ ?_|refine mUT F ?_ ?_|refine mDT F ?_ ?_|(refine gP F ?_ ?_<;>(intro h;first|(exfalso;omega)|(simp only [h,decide_true,decide_false,not_true,not_false_iff])))|(refine gN F ?_ ?_<;>(intro h;first|(exfalso;omega)|(simp only [h,decide_true,decide_false,not_true,not_false_iff]))))
  all_goals try exact cl True.intro
  all_goals try (simp (disch:=first|omega|(simp only [go_sem];omega)) only [go_sem,seval,reduceCtorEq,hlen,hx,hB,j1,j2,o_put0])
  all_goals try simp [hx]
  all_goals try exact (okc_sl _ _ _ _).2 trivial
  all_goals try rw [List.take_of_length_le (by omega)]
 exact h.keep _ _ hq.l hw (by simp [bel,bels,bels_bl])
end
theorem gls_nil {α:Type} {enc:α→List AVal} {l:List α} (h:l=[]):gls enc l=[]:=by rw [h];rfl
end
end Go.Am
end
