/- The reference's oracle at any state: answer to a new question; Ask, Digest, Key. -/
import Derived.Test.YteemcehaekffeaaGreatO17
import Derived.Test.YteemcehaekffeaaGreatAmPost
import Derived.Lib.AppendZerosOnto
import Derived.Laws.IdiomCopy
import Derived.Lib.Walk
import Derived.WalkKit
import Derived.BigCall
import Derived.BigGuard
set_option linter.unusedVariables false
set_option linter.unusedSimpArgs false
section
namespace Go.Am
open Go Go.Proofs
set_option maxHeartbeats 8000000
set_option maxRecDepth 100000
section
attribute [local irreducible] aC aL thenQ blockQ scopeQ ALoop AWp
theorem set_c2 {S:St} {q l:Nat} (h:q≠l) (A B C':ABox):((S.set q A).set l B).set q C'=(S.set l B).set q C':=by
 rw [List.set_comm _ _ h,List.set_set]
theorem ref_answer_miss {S:St} (h0:0<S.length) {q l sd:Nat} {L:List It} (h:RorP S q l sd L) (hl:L.length≤900000) (hLd:∀ i∈L,i.q.data.length≤1000000000) (qn:Qn) (hq:qn.key.length=32) (hql:qn.data.length≤1000000000) (hq0:0<qn.data.length) {dv:AVal} (hd:Part S dv qn.data) (hdn:∀ i off n c,dv = .view i off n c→i≠q) (hp:findQ L qn=none) :
  ACall cx 93 [.ptr q 0,.agg (qV qn dv),.agg (bl zq)] S (.agg (bl (drawN [] L.length))) ((S.set l (.grow (L.length+1) 67 114)).set q (.cells (roC sd (L++[⟨qn,false,drawN [] L.length⟩]) l) 79)):=by
 have hpn:=findQ_none hp
 obtain ⟨hqlt,hllt⟩:=h.lt
 have hqne:=h.ne
 have hS:=h.bx
 have hG:=h.lg
 have hx:=length_drawN (dr:=[]) (by simp) L.length
 have qv1:dv.one=true:=by
  rcases hd with ⟨nl',rfl⟩|⟨i,off,c,cs,t,rfl,_⟩<;>rfl
 have hw:ACall cx 93 [.ptr q 0,.agg (qV qn dv),.agg (bl zq)] S (.agg (bl (drawN [] L.length))) (((S.set l (.grow (L.length+1) 67 114)).set q (.cells (.bool true::(bl zq++[.sl sd true [] .any,.int .i64 (L.length+1:Nat),.sl 67 false (gls itC L++[.agg (.int .i64 qn.k::(bl qn.key++(.int .i64 qn.dom :: .sl 1 false (bl qn.data) (.grow (S.length+4))::bl (drawN [] L.length))))]) (.own l)])) 79)) ++
   [.cells (qV qn (.sl 1 false (bl qn.data) (.grow (S.length+4)))) 112,.cells (bl zq) 34,.cells (bl (drawN [] L.length)) 34,.cells (bl (drawN [] L.length)) 34,.grow qn.data.length 1 5]):=by
  have j1:=fun n r=>o_drop length_zq n r
  have j2:=fun n r=>o_get length_zq n r
  have j3:=fun n r cs hh=>o_put length_zq n r cs hh
  have qvl:=qV_len hq dv
  have qvo:=qV_one qn qv1
  have qvt:(qV qn dv).take 35=qV qn dv:=List.take_of_length_le (by omega)
  have hlt0:=h.lt
  have hwf:=h.wf
  have hne:(bl qn.data).isEmpty=false:=by
   cases hh:qn.data
   ·rw [hh] at hq0;simp at hq0
   ·rfl
  have hD:=fun (R:St)=>ref_draw (S:=S++R) (by simp;omega) (u:=L.length) (by rw [List.getElem?_append_left hqlt];exact hS) L.length (by omega)
  unfold roD at hD
  unfold roC at hS
  unfold zq at *
  generalize hQ:qV qn dv=Q at *
  generalize drawN [] L.length=x at *
  have t1:(bl x).take 32=bl x:=List.take_of_length_le (by rw [length_bl];omega)
  have t2:x.take 32=x:=List.take_of_length_le (by omega)
  refine acall_fnK cxOk Tryz.func93 (fun _=>false) (fe93.q) (by kernel_rfl) (by dsimp only [Tryz.f93,go_sem,seval,liteO,Option.map,List.map];exact .mk _) ?_
  dsimp only [Tryz.f93,frame0,List.zipIdx,List.map,Nat.reduceAdd]
  repeat' (first|refine aC_seq ?_|refine aC_reg rfl ?_|refine aC_block ?_|refine aC_loop ?_|refine thenQ_normal ?_|refine aL_nil ?_|(apply aL_step;(·exact True.intro);(iterate 2 (·simp (disch:=first|omega|(simp only [go_sem];omega)) only [go_sem,seval]<;>with_reducible rfl));(·simp only [go_sem]<;>with_reducible rfl))|fail)
  ·refine loop_rule (cxOk.wp _ _) (σ:=Nat) (fun k=>[(7,.int .i64 k),(4,.ptr S.length 0),(5,.ptr (S.length+1) 0),(6,.ptr (S.length+2) 0),(0,.ptr q 0)])
    (fun _=>S++[.cells Q 112,.cells (bl [0,0,0,0,0,0,0,0,0,0,0,0,0,0,0,0,0,0,0,0,0,0,0,0,0,0,0,0,0,0,0,0]) 34,.cells (bl [0,0,0,0,0,0,0,0,0,0,0,0,0,0,0,0,0,0,0,0,0,0,0,0,0,0,0,0,0,0,0,0]) 34]) (fun k=>L.length-k) (fun k=>k≤L.length) 0 (GStep.refl _ _) ⟨Nat.zero_le _,Sub.of_all (by simp [Fr.get]),by simp⟩ ?_
   intro k hk
   by_cases hkl:k<L.length
   ·have hlt':((k:Nat):Int)<(L.length:Int):=by omega
    have hg:=getD_gls itC L ⟨qn,false,[]⟩ k .any hkl
    obtain ⟨w1,w2⟩:=hwf (L.getD k ⟨qn,false,[]⟩) (by rw [show L.getD k ⟨qn,false,[]⟩=L[k] by simp [List.getD,hkl]];exact List.getElem_mem hkl)
    have hdl:=hLd (L.getD k ⟨qn,false,[]⟩) (by rw [show L.getD k ⟨qn,false,[]⟩=L[k] by simp [List.getD,hkl]];exact List.getElem_mem hkl)
    have hsame:=fun R:St=>ref_Same (S:=S++R) (by simp;omega) (L.getD k ⟨qn,false,[]⟩).q qn (L.getD k ⟨qn,false,[]⟩).nl w1 hq hdl hql (hd.more R)
    rw [hQ] at hsame
    have hgk:L.getD k ⟨qn,false,[]⟩=L[k]:=by simp [List.getD,hkl]
    have hi:=itC_exp (L.getD k ⟨qn,false,[]⟩)
    have ht1:=fun r=>o_take w1 r
    have hd1:=fun n r=>o_drop w1 n r
    have hne2:=hpn k hkl
    rw [← hgk] at hne2
    generalize L.getD k ⟨qn,false,[]⟩=it at *
    have hdf:decide (it.q=qn)=false:=decide_eq_false hne2
    rw [hdf] at hsame
    have ht34:∀ a b:AVal,∀ r:List AVal,(bl it.q.key++(a::b::r)).take 34=bl it.q.key++[a,b]:=fun a b r=>by
     rw [List.take_append,length_bl,w1,List.take_of_length_le (by rw [length_bl];omega)];rfl
    unfold qC at hsame
    rw [hi] at hg
    repeat' (first|refine aC_seq ?_|refine aC_reg rfl ?_|refine aC_block ?_|refine aC_skip ?_|refine thenQ_normal ?_|refine blockQ_normal ?_|refine aL_nil ?_|(apply aL_step;(·exact True.intro);(iterate 2 (·simp (disch:=first|omega|(simp only [go_sem];omega)) only [go_sem,seval,hS,j1,hlt',hg,qvl,qvt,ht34,length_gls,decide_true]<;>with_reducible rfl));(·simp only [go_sem]<;>with_reducible rfl))|(refine aC_condT ?_ ?_;(·simp (disch:=first|omega|(simp only [go_sem];omega)) only [go_sem,seval]))|(refine aC_condF ?_ ?_;(·simp (disch:=first|omega|(simp only [go_sem];omega)) only [go_sem,seval]))|(apply aL_aK (hsame _);(·rfl);(iterate 2 (·simp (disch:=first|omega|(simp only [go_sem];omega)) only [go_sem,seval]<;>with_reducible rfl));(·simp only [go_sem]<;>with_reducible rfl))|fail)
    all_goals try (first|exact True.intro|exact not_false|omega|(simp (disch:=first|omega|(simp only [go_sem];omega)) only [go_sem,seval]<;>omega))
    all_goals try (exact ⟨k+1,by omega,Sub.of_all (by simp [Fr.get]),rfl,by omega⟩)
   ·have hk2:k=L.length:=by omega
    subst hk2
    have kl:(bl qn.key).length=32:=by rw [length_bl];exact hq
    have q2:=fun n r=>o_drop hq n r
    have q3:=fun n r cs hh=>o_put hq n r cs hh
    have q4:∀ a b:AVal,(bl qn.key++[a,b]).take 34=bl qn.key++[a,b]:=fun a b=>List.take_of_length_le (by rw [List.length_append,length_bl,hq];simp)
    rcases hd with ⟨nl',g⟩|⟨i,off,c,cs,t,g,g2,g3,g4⟩
    ·subst g
     rw [qV_exp] at hQ
     subst hQ
     repeat' (first|refine aC_seq ?_|refine aC_reg rfl ?_|refine aC_exit ?_|refine aC_ret ?_|refine thenQ_normal ?_|refine thenQ_exit ?_|refine blockQ_hit ?_|refine aL_nil ?_|(apply aL_step;(·exact True.intro);(iterate 2 (·simp (disch:=first|omega|(simp only [go_sem];omega)) only [go_sem,seval,hS,hG,j1,j3,kl,hx,q2,q3,q4,t1,hne,o_put0,o_put2,length_gls,Bool.and_false]<;>with_reducible rfl));(·simp only [go_sem]<;>with_reducible rfl))|(refine aC_condT ?_ ?_;(·simp (disch:=first|omega|(simp only [go_sem];omega)) only [go_sem,seval]))|(refine aC_condP (by simp (disch:=first|omega|(simp only [go_sem];omega)) only [go_sem,seval]<;>with_reducible rfl) ?_ ?_<;>(intro h;first|(exfalso;omega)|skip))|(apply aL_aK (hD _);(·rfl);(iterate 2 (·simp (disch:=first|omega|(simp only [go_sem];omega)) only [go_sem,seval]<;>with_reducible rfl));(·simp only [go_sem]<;>with_reducible rfl))|fail)
     all_goals try (first|exact True.intro|exact not_false|omega|(simp (disch:=first|omega|(simp only [go_sem];omega)) only [go_sem,seval]<;>omega))
     all_goals try (simp (disch:=first|omega|(simp only [go_sem];omega)) only [go_sem,seval,hx,t1,qV])
     all_goals try simp
     all_goals try rw [set_c2 hqne]
     all_goals try (rintro c (hc|rfl|rfl|hc)<;>first|rfl|exact bl_one _ _ hc)
    ·have hi:i<S.length:=(List.getElem?_eq_some_iff.1 g2).1
     have hiq:=hdn i off _ c g
     subst g
     rw [qV_exp] at hQ
     subst hQ
     have hil:l≠i:=by rintro rfl;rw [hG] at g2;cases g2
     have g5:∀ y∈(cs.drop off).take qn.data.length,y.one=true:=by rw [g3];exact fun y hy=>bl_one _ y hy
     repeat' (first|refine aC_seq ?_|refine aC_reg rfl ?_|refine aC_exit ?_|refine aC_ret ?_|refine thenQ_normal ?_|refine thenQ_exit ?_|refine blockQ_hit ?_|refine aL_nil ?_|(apply aL_step;(·exact True.intro);(iterate 2 (·simp (disch:=first|omega|(simp only [go_sem];omega)) only [go_sem,seval,hS,hG,j1,j3,kl,hx,q2,q3,q4,t1,hne,g2,g3,o_put0,o_put2,length_gls,Bool.and_false]<;>with_reducible rfl));(·simp only [go_sem]<;>with_reducible rfl))|(refine aC_condT ?_ ?_;(·simp (disch:=first|omega|(simp only [go_sem];omega)) only [go_sem,seval]))|(refine aC_condP (by simp (disch:=first|omega|(simp only [go_sem];omega)) only [go_sem,seval]<;>with_reducible rfl) ?_ ?_<;>(intro h;first|(exfalso;omega)|skip))|(apply aL_aK (hD _);(·rfl);(iterate 2 (·simp (disch:=first|omega|(simp only [go_sem];omega)) only [go_sem,seval]<;>with_reducible rfl));(·simp only [go_sem]<;>with_reducible rfl))|fail)
     all_goals try (first|exact True.intro|exact not_false|omega|(simp (disch:=first|omega|(simp only [go_sem];omega)) only [go_sem,seval]<;>omega))
     all_goals try (simp (disch:=first|omega|(simp only [go_sem];omega)) only [go_sem,seval,hx,t1,qV])
     all_goals try simp
     all_goals try exact ⟨⟨g4,g5⟩,by omega,by omega⟩
     all_goals try rw [set_c2 hqne]
     all_goals try (rintro c (hc|rfl|rfl|hc)<;>first|rfl|exact bl_one _ _ hc)
  all_goals try (simp (disch:=first|omega|(simp only [go_sem];omega)) only [go_sem,seval])
  all_goals try exact qvo
 have hw2:=hw.wdBox q (roC sd (L++[⟨qn,false,drawN [] L.length⟩]) l) (by rw [List.getElem?_append_left (by simp;omega),List.getElem?_set_self (by simp;omega)]) (by
  unfold roC
  rw [gls_app,it_exp]
  simp [Wds,Wd,Wds_app,Wds_refl])
 rw [List.set_append_left _ _ (by simp;omega),List.set_set] at hw2
 refine hw2.keep cxG h0 (by simp) (by simp [bel,bels_bl]) fun i y hy=>?_
 by_cases e1:i=q
 ·subst e1
  rw [List.getElem?_set_self (by simp;omega)] at hy
  rw [← Option.some.inj hy]
  right
  simp [belB,roC,bels,bel,bels_bl,bels_app,bels_gls_it,belT,hllt]
 ·rw [List.getElem?_set_ne (Ne.symm e1)] at hy
  by_cases e2:i=l
  ·subst e2
   rw [List.getElem?_set_self hllt] at hy
   rw [← Option.some.inj hy]
   exact .inr rfl
  ·rw [List.getElem?_set_ne (Ne.symm e2)] at hy
   exact .inl hy
end
end Go.Am
end
section
namespace Go.Am
open Go Go.Proofs
set_option maxHeartbeats 8000000
set_option maxRecDepth 100000
section
attribute [local irreducible] aC aL thenQ blockQ scopeQ ALoop AWp
def LD (L:List It):Prop:=∀ i∈L,i.q.data.length≤1000000000
section
variable {S:St} {q l sd:Nat} {L:List It}
theorem length_raskS (qn:Qn):(raskS S q l sd L qn).length=S.length:=by
 unfold raskS
 split<;>simp
theorem raskS_ne (qn:Qn) {i:Nat} (h1:i≠q) (h2:i≠l):(raskS S q l sd L qn)[i]? = S[i]?:=by
 unfold raskS
 split
 ·rfl
 ·rw [List.getElem?_set_ne (Ne.symm h1),List.getElem?_set_ne (Ne.symm h2)]
theorem raskS_app (h:RorP S q l sd L) (qn:Qn) (R:St):raskS (S++R) q l sd L qn=raskS S q l sd L qn++R:=by
 obtain ⟨h1,h2⟩:=h.lt
 unfold raskS
 split
 ·rfl
 ·rw [List.set_append_left _ _ h2,List.set_append_left _ _ (by rw [List.length_set];exact h1)]
theorem length_raskD (h:RorP S q l sd L) (qn:Qn):(askD [] L qn).length=32:=by
 unfold askD
 split
 ·next p hp =>
  have hl:p<L.length:=(List.findIdx?_eq_some_iff_getElem.1 hp).1
  rw [show L.getD p ⟨qn,false,[]⟩=L[p] by simp [List.getD,hl]]
  exact (h.wf _ (List.getElem_mem hl)).2
 ·exact length_drawN (dr:=[]) (by simp) _
theorem RorP.ask (h:RorP S q l sd L) (qn:Qn) (hq:qn.key.length=32):RorP (raskS S q l sd L qn) q l sd (askL [] L qn false):=by
 obtain ⟨h1,h2⟩:=h.lt
 have n1:=h.ne
 unfold raskS askL
 rcases hf:findQ L qn with _|p
 rotate_left
 ·exact h
 ·refine ⟨?_,?_,h.wf.app ⟨hq,length_drawN (dr:=[]) (by simp) _⟩⟩
  ·rw [List.getElem?_set_self (by rw [List.length_set];exact h1)]
  ·rw [List.getElem?_set_ne n1,List.getElem?_set_self h2,List.length_append]
   rfl
theorem LD.ask (h:LD L) (qn:Qn) (nl:Bool) (hq:qn.data.length≤1000000000) {dr:List (List UInt8)}:LD (askL dr L qn nl):=by
 unfold askL
 split
 ·exact h
 ·intro i hi
  rcases List.mem_append.1 hi with hi|hi
  ·exact h i hi
  ·rw [List.mem_singleton.1 hi];exact hq
theorem RorP.belB (h:RorP S q l sd L) {i:Nat} {x:ABox} (hi:i=q∨i=l) (hx:S[i]? = some x):Go.Am.belB S.length x=true:=by
 obtain ⟨h1,h2⟩:=h.lt
 rcases hi with rfl|rfl
 ·rw [h.bx] at hx
  rw [← Option.some.inj hx]
  simp [Go.Am.belB,roC,bels,bel,bels_bl,bels_app,bels_gls_it,belT,blt_iff,h2]
 ·rw [h.lg] at hx
  rw [← Option.some.inj hx]
  rfl
theorem RorP.hB (h:RorP S q l sd L) (qn:Qn) (hq:qn.key.length=32) {i:Nat} {x:ABox} (hx:(raskS S q l sd L qn)[i]? = some x):S[i]? = some x∨Go.Am.belB S.length x=true:=by
 by_cases e:i=q∨i=l
 ·right
  rw [← length_raskS (S:=S) (q:=q) (l:=l) (sd:=sd) (L:=L) qn]
  exact (h.ask qn hq).belB e hx
 ·rw [raskS_ne qn (by omega) (by omega)] at hx
  exact .inl hx
theorem RorP.keep (h:RorP S q l sd L) {f:FuncId} {args:List AVal} {r:AVal} {J:St} (qn:Qn) (hq:qn.key.length=32) (hw:ACall cx f args S r (raskS S q l sd L qn++J)) (hr:bel S.length r=true):ACall cx f args S r (raskS S q l sd L qn) :=
 hw.keep cxG (by have:=h.lt;omega) (length_raskS qn) hr fun i x hx=>h.hB qn hq hx
theorem ref_answer (h:RorP S q l sd L) (hl:L.length≤900000) (hLd:LD L) (qn:Qn) (hq:qn.key.length=32) (hql:qn.data.length≤1000000000) (hq0:0<qn.data.length) {dv:AVal} (hd:Part S dv qn.data) (hdn:∀ i off n c,dv = .view i off n c→i≠q) :
  ACall cx 93 [.ptr q 0,.agg (qV qn dv),.agg (bl zq)] S (.agg (bl (askD [] L qn))) (raskS S q l sd L qn):=by
 have h0:0<S.length:=by have:=h.lt;omega
 unfold askD raskS
 rcases hp:findQ L qn with _|p
 rotate_left
 ·have hlp:p<L.length:=(List.findIdx?_eq_some_iff_getElem.1 hp).1
  exact ref_answer_hit h0 h hl hLd qn hq hql hd hp
 ·exact ref_answer_miss h0 h hl hLd qn hq hql hq0 hd hdn hp
theorem ref_ask (h:RorP S q l sd L) (hl:L.length≤900000) (hLd:LD L) (qn:Qn) (hq:qn.key.length=32) (hql:qn.data.length≤1000000000) (hq0:0<qn.data.length) {dv:AVal} (hd:Part S dv qn.data) (hdn:∀ i off n c,dv = .view i off n c→i≠q) :
  ACall cx 67 [.ptr q 0,.agg (qV qn dv)] S (.agg (bl (askD [] L qn))) (raskS S q l sd L qn):=by
 have hx:=length_raskD h qn
 have qv1:dv.one=true:=by
  rcases hd with ⟨nl',rfl⟩|⟨i,off,c,cs,t,rfl,_⟩<;>rfl
 have hw:ACall cx 67 [.ptr q 0,.agg (qV qn dv)] S (.agg (bl (askD [] L qn))) (raskS S q l sd L qn++[.cells (qV qn dv) 112,.cells (bl (askD [] L qn)) 34,.cells (bl zq) 34]):=by
  have hA:∀ R:St,ACall cx 93 [.ptr q 0,.agg (qV qn dv),.agg (bl zq)] (S++R) (.agg (bl (askD [] L qn))) (raskS S q l sd L qn++R):=fun R=>by
   rw [← raskS_app h]
   exact ref_answer (h.more R) hl hLd qn hq hql hq0 (hd.more R) hdn
  have hlen:=length_raskS (S:=S) (q:=q) (l:=l) (sd:=sd) (L:=L) qn
  have qvl:=qV_len hq dv
  have qvo:=qV_one qn qv1
  have qvt:(qV qn dv).take 35=qV qn dv:=List.take_of_length_le (by omega)
  have hS:=h.bx
  have hqlt:=h.lt.1
  unfold roC at hS
  unfold zq at *
  generalize raskS S q l sd L qn=S1 at *
  generalize askD [] L qn=x at *
  generalize qV qn dv=Q at *
  have t1:(bl x).take 32=bl x:=List.take_of_length_le (by rw [length_bl];omega)
  have t2:x.take 32=x:=List.take_of_length_le (by omega)
  refine oA lq67 ?_
  exact wk1 (pk8 @hlen @hS @hx @qvl @qvt @t1 @t2 @o_put0) hA
 exact h.keep qn hq hw (by simp [bel,bels_bl])
theorem ref_digest (h:RorP S q l sd L) (hl:L.length≤900000) (hLd:LD L) (dom:Int) (b:List UInt8) (hb:b.length≤1000000000) (hb0:0<b.length) {dv:AVal} (hd:Part S dv b) (hdn:∀ i off n c,dv = .view i off n c→i≠q) :
  ACall cx 47 [.ptr q 0,.int .i64 dom,dv] S (.agg (bl (askD [] L (dgQ dom b)))) (raskS S q l sd L (dgQ dom b)):=by
 have hx:=length_raskD h (dgQ dom b)
 have qv1:dv.one=true:=by
  rcases hd with ⟨nl',rfl⟩|⟨i,off,c,cs,t,rfl,_⟩<;>rfl
 have hw:ACall cx 47 [.ptr q 0,.int .i64 dom,dv] S (.agg (bl (askD [] L (dgQ dom b)))) (raskS S q l sd L (dgQ dom b)++[.cells (bl (askD [] L (dgQ dom b))) 34]):=by
  have hA:∀ R:St,ACall cx 67 [.ptr q 0,.agg (qV (dgQ dom b) dv)] (S++R) (.agg (bl (askD [] L (dgQ dom b)))) (raskS S q l sd L (dgQ dom b)++R):=fun R=>by
   rw [← raskS_app h]
   exact ref_ask (h.more R) hl hLd (dgQ dom b) rfl hb hb0 (hd.more R) hdn
  have hlen:=length_raskS (S:=S) (q:=q) (l:=l) (sd:=sd) (L:=L) (dgQ dom b)
  rw [show qV (dgQ dom b) dv = .int .i64 1::(bl zq++[.int .i64 dom,dv]) from rfl] at hA
  unfold zq at hA
  have hz:(bl [0,0,0,0,0,0,0,0,0,0,0,0,0,0,0,0,0,0,0,0,0,0,0,0,0,0,0,0,0,0,0,0]:List AVal).length=32:=rfl
  have dvc:dv.cells=[dv]:=by
   rcases hd with ⟨nl',rfl⟩|⟨i,off,c,cs,t,rfl,_⟩<;>rfl
  have dvk:dv.okc:=by unfold AVal.okc;rw [dvc];intro c hc;rw [List.mem_singleton.1 hc];exact qv1
  generalize raskS S q l sd L (dgQ dom b)=S1 at *
  generalize askD [] L (dgQ dom b)=x at *
  have t1:(bl x).take 32=bl x:=List.take_of_length_le (by rw [length_bl];omega)
  have t2:x.take 32=x:=List.take_of_length_le (by omega)
  refine oA lq47 ?_
  have F:=(pk8 @hlen @hx @hz @dvc @put_z @t1 @t2 @o_put0)
  repeat' (first|refine st1 F hA ?_|(refine cp F ?_ ?_<;>intro h)|refine zT F ?_ ?_)
  all_goals try exact cl F
  all_goals try simp
  all_goals try exact dvk
  all_goals try exact fun c hc=>bl_one _ c hc
 exact h.keep _ rfl hw (by simp [bel,bels_bl])
theorem ref_key (h:RorP S q l sd L) (hl:L.length≤900000) (hLd:LD L) (dom:Int) (b:List UInt8) (hb:b.length≤1000000000) (hb0:0<b.length) {dv:AVal} (hd:Part S dv b) (hdn:∀ i off n c,dv = .view i off n c→i≠q) :
  ACall cx 34 [.ptr q 0,.int .i64 dom,dv] S (.agg (bl (askD [] L (kyQ zq dom b)))) (raskS S q l sd L (kyQ zq dom b)):=by
 have hx:=length_raskD h (kyQ zq dom b)
 have qv1:dv.one=true:=by
  rcases hd with ⟨nl',rfl⟩|⟨i,off,c,cs,t,rfl,_⟩<;>rfl
 have hw:ACall cx 34 [.ptr q 0,.int .i64 dom,dv] S (.agg (bl (askD [] L (kyQ zq dom b)))) (raskS S q l sd L (kyQ zq dom b)++[.cells (bl (askD [] L (kyQ zq dom b))) 34]):=by
  have hA:∀ R:St,ACall cx 67 [.ptr q 0,.agg (qV (kyQ zq dom b) dv)] (S++R) (.agg (bl (askD [] L (kyQ zq dom b)))) (raskS S q l sd L (kyQ zq dom b)++R):=fun R=>by
   rw [← raskS_app h]
   exact ref_ask (h.more R) hl hLd (kyQ zq dom b) rfl hb hb0 (hd.more R) hdn
  have hlen:=length_raskS (S:=S) (q:=q) (l:=l) (sd:=sd) (L:=L) (kyQ zq dom b)
  rw [show qV (kyQ zq dom b) dv = .int .i64 3::(bl zq++[.int .i64 dom,dv]) from rfl] at hA
  have hS:=h.bx
  have hqlt:=h.lt.1
  have j1:=fun n r=>o_drop length_zq n r
  have j2:=fun r=>o_take length_zq r
  unfold roC at hS
  generalize raskS S q l sd L (kyQ zq dom b)=S1 at *
  generalize askD [] L (kyQ zq dom b)=x at *
  unfold zq at hA hS j1 j2
  have hz:(bl [0,0,0,0,0,0,0,0,0,0,0,0,0,0,0,0,0,0,0,0,0,0,0,0,0,0,0,0,0,0,0,0]:List AVal).length=32:=rfl
  have dvc:dv.cells=[dv]:=by
   rcases hd with ⟨nl',rfl⟩|⟨i,off,c,cs,t,rfl,_⟩<;>rfl
  have dvk:dv.okc:=by unfold AVal.okc;rw [dvc];intro c hc;rw [List.mem_singleton.1 hc];exact qv1
  have t1:(bl x).take 32=bl x:=List.take_of_length_le (by rw [length_bl];omega)
  have t2:x.take 32=x:=List.take_of_length_le (by omega)
  refine oA lq34 ?_
  have F:=(pk12 @hlen @hS @hx @hz @j1 @j2 @dvc @put_z @t1 @t2 @o_put0 @o_putP)
  repeat' (first|refine st1 F hA ?_|(refine cp F ?_ ?_<;>intro h)|refine zT F ?_ ?_)
  all_goals try exact cl F
  all_goals try simp
  all_goals try exact dvk
  all_goals try exact fun c hc=>bl_one _ c hc
 exact h.keep _ rfl hw (by simp [bel,bels_bl])
end
end
end Go.Am
end
section
namespace Go.Am
open Go Go.RowKit Go.Sort Go.Lib Go.Proofs
set_option maxRecDepth 100000
set_option maxHeartbeats 4000000
def recS:ByteArray:=⟨#[114,101,99]⟩
theorem conv_rec {P:Program} (w:World) {src dst e:TypeId} (hs:P.underlying src=some .string) (hd:P.underlying dst=some (.slice e)) (he:P.underlying e=some (.int .u8)) :
  ∃ (cap:Nat) (arr:Array Value) (w1:World),(convert src dst (.string recS)).run P w = .ok (.slice (some ⟨w.heap.size,0,none⟩) 3 cap) w1∧w.grownBy w1 none∧w1.heap[w.heap.size]? = some (.cells arr e (arr.size,arr.size+1))∧w1.heap.size=w.heap.size+1 ∧
   arr.size=cap∧3≤cap∧cap≤maxLen∧arr.getD 0 undef = .int .u8 114∧arr.getD 1 undef = .int .u8 101∧arr.getD 2 undef = .int .u8 99:=by
 generalize hq:(Question.appendCap recS.size 0 e).cut (w.tape w.drawn (.appendCap recS.size 0 e))=cap
 have hcap:3≤cap∧cap≤maxLen:=by
  rw [← hq]
  show 3≤(Question.appendCap 3 0 e).cut _∧_
  simp only [Question.cut,maxLen]
  have:w.tape w.drawn (Question.appendCap 3 0 e)%(2 ^ 63-3)<2 ^ 63-3:=Nat.mod_lt _ (by omega)
  have h3:recS.size=3:=rfl
  rw [h3]
  omega
 have hq3:(Question.appendCap 3 0 e).cut (w.tape w.drawn (.appendCap 3 0 e))=cap:=hq
 let arr:Array Value:=(recS.data.map fun c=>Value.int .u8 (c.toNat:Int))++Array.replicate (cap-3) (.int .u8 0)
 have hasz:arr.size=cap:=by simp [arr,recS];omega
 refine ⟨cap,arr,(w.drew.alloc (.cells arr e)).freeze ⟨w.heap.size,arr.size,none⟩ 1,?_,?_,?_,?_,hasz,hcap.1,hcap.2,?_,?_,?_⟩
 ·have hsh:(w.drew.alloc (.cells arr e)).shape? w.heap.size=some (e,arr.size):=by
   have:=heap_new w.drew (.cells arr e)
   simp only [World.shape?]
   rw [show w.heap.size=w.drew.heap.size from rfl,this]
  have h3:recS.size=3:=rfl
  simp only [convert,run_underlying hs,run_underlying hd,Sem.run_bind,Result.andThen_ok,run_underlying he,Conv.stringToBytes]
  simp only [choose,Sem.run,Question.forced,Bool.false_eq_true,if_false,Result.andThen_ok,hq,newRow,newObj,Sem.run_bind,Sem.run_pure,markStringish,shape,freeze]
  show Result.andThen _ _=_
  have h2:World.shape? { w.drew with heap:=w.drew.heap.push (.cells arr e) } w.drew.heap.size=some (e,arr.size):=hsh
  simp only [World.drew] at h2 ⊢
  simp only [arr] at h2
  simp only [h3,h2,Result.andThen_ok,Sem.run]
  rfl
 ·refine ⟨rfl,rfl,rfl,?_,fun k hk _=>?_⟩
  ·unfold World.freeze;simp
  ·have h1:=Go.RowKit.Below.heap_alloc w.drew (.cells arr e) k hk
   rw [show w.drew.heap[k]? = w.heap[k]? from rfl] at h1
   rw [← h1]
   unfold World.freeze
   simp only [Nat.succ_ne_zero,if_false]
   rw [Array.getElem?_modify,if_neg (by omega)]
 ·have h1:=heap_new w.drew (.cells arr e)
  rw [show w.drew.heap.size=w.heap.size from rfl] at h1
  unfold World.freeze
  simp only [Nat.succ_ne_zero,if_false]
  rw [Array.getElem?_modify,if_pos rfl,h1]
  simp
 ·unfold World.freeze;simp
 ·simp [arr,recS,Array.getD_eq_getD_getElem?,Array.getElem?_append_left]
 ·simp [arr,recS,Array.getD_eq_getD_getElem?,Array.getElem?_append_left]
 ·simp [arr,recS,Array.getD_eq_getD_getElem?,Array.getElem?_append_left]
theorem app_zeros {P:Program} (w1:World) {t tn e:TypeId} {i:TI} (hu:P.underlying t=some (.slice e)) (htn:P.underlying tn=some (.int .i64)) (hi:i.ok P e) (hsz:i.size=1) (hby:i.bytes=1) (hzz:i.zero=[.int .u8 0]) (hii:i.isAgg=false)
  (b cap:Nat) (h3:3≤cap) (hm:cap≤maxLen) (arr:Array Value) (hb:w1.heap[b]? = some (.cells arr e (arr.size,arr.size+1))) (has:arr.size=cap)
  (a0:arr.getD 0 undef = .int .u8 114) (a1:arr.getD 1 undef = .int .u8 101) (a2:arr.getD 2 undef = .int .u8 99) (ty:TypeId) :
  ∃ v w',(Builtin.append_ #[t,tn] ty #[.slice (some ⟨b,0,none⟩) 3 cap,.int .i64 5]).run P w1 = .ok v w'∧w1.grownBy w' (some b)∧∃ b' cap':Nat,v = .slice (some ⟨b',0,none⟩) 8 cap'∧(b'=b∨w1.heap.size≤b')∧b'<w'.heap.size∧8≤cap'∧cap'≤maxLen ∧
   ∀ j,j<8→w'.cell? ⟨b',j,none⟩=some (.int .u8 (((mkr.getD j 0).toNat:Nat):Int)):=by
 obtain ⟨inf,z,hinf,hz,hs,hbs,hzs,c1,c2,c3⟩:=zeros_ok hi 5
 rw [hsz] at hs hzs
 rw [hby] at hbs
 obtain ⟨x,hx⟩ : ∃ x,z.cells = #[x]:=Array.size_eq_one_iff.1 hzs
 have hx0:x = .int .u8 0:=by
  have h:=c2 (env0 w1 fun _ _=>False) 0 (by simp) 0 (by rw [c1 0 (by simp),hsz];decide)
  have e1:(((List.replicate 5 (ofCells i i.zero))[0]'(by simp)).cells[0]'(by rw [c1 0 (by simp),hsz];decide)) = .int .u8 0:=by
   simp [ofCells,hzz,hii,AVal.cells]
  rw [e1,hsz,hx] at h
  have e2:((Array.range (5*1)).map (fun k=>(#[x]:Array Value)[k%(#[x]:Array Value).size]!)).getD (0*1+0) undef=x:=by simp [Array.getD]
  rw [e2] at h
  cases h
  rfl
 subst hx0
 have hzc:Builtin.zeroCells z.cells 5 = #[.int .u8 0,.int .u8 0,.int .u8 0,.int .u8 0,.int .u8 0]:=by rw [hx];kernel_rfl
 have hbl:b<w1.heap.size:=by
  rcases Nat.lt_or_ge b w1.heap.size with h|h
  ·exact h
  ·rw [Array.getElem?_eq_none h] at hb;cases hb
 have hcell:∀ j:Nat,j<arr.size→w1.cell? ⟨b,j,none⟩=some (arr.getD j undef):=fun j hj=>by
  simp only [World.cell?,hb]
  simp [Array.getD,hj]
 have hmk:∀ j,j<8→(j=0∨j=1∨j=2∨(3≤j∧j<8)):=fun j hj=>by omega
 by_cases h8:8≤cap
 ·have hst:=run_storeCells_cells (P:=P) b 3 [.int .u8 0,.int .u8 0,.int .u8 0,.int .u8 0,.int .u8 0] 0 w1 (fun j hj=>by rw [hcell _ (by simp at hj;omega)];rfl) (fun j hj=>by
   have:¬ arr.size≤3+0+j:=by simp at hj;omega
   simp [World.frozen?,hb,this]) (by simp [Value.oneCell'])
  have hwk:IntKind.i64.wrap 5=5:=rfl
  refine ⟨.slice (some ⟨b,0,none⟩) 8 cap,w1.setCells b (3+0) [.int .u8 0,.int .u8 0,.int .u8 0,.int .u8 0,.int .u8 0],?_,?_,b,cap,rfl,.inl rfl,?_,h8,hm,?_⟩
  ·have hadd:(⟨b,0,none⟩ : Addr).add 3=⟨b,3,none⟩:=rfl
   simp [Builtin.append_,run_underlying hu,run_underlying htn,run_sizeOf hinf,hs,typeInfo,zeroValue,hinf,hz,asInt,asIntOf,hwk,hbs,hzc,h8,hadd,hst]
  ·have key:∀ (vs:List Value) (o:Nat) (w:World),w.grownBy (w.setCells b o vs) (some b):=by
    intro vs
    induction vs with
    |nil=>exact fun o w=>⟨rfl,rfl,rfl,Nat.le_refl _,fun _ _ _=>rfl⟩
    |cons v r ih =>
     intro o w
     have h1:=ih (o+1) (w.setCell ⟨b,o,none⟩ v)
     refine ⟨h1.os,h1.tape,h1.output,Nat.le_trans (KeepsWalks.setCell w _ v).size h1.size,fun k hk hne=>?_⟩
     exact (h1.block k (Nat.lt_of_lt_of_le hk (KeepsWalks.setCell w _ v).size) hne).trans (Go.RowKit.Below.heap_setCell _ _ _ k (fun e=>hne (by rw [e])))
   exact key _ _ _
  ·have key:∀ (vs:List Value) (o:Nat) (w:World),w.heap.size≤(w.setCells b o vs).heap.size:=by
    intro vs
    induction vs with
    |nil=>exact fun o w=>Nat.le_refl _
    |cons v r ih=>exact fun o w=>Nat.le_trans (KeepsWalks.setCell w _ v).size (ih (o+1) _)
   exact Nat.lt_of_lt_of_le hbl (key _ _ _)
  ·intro j hj
   rcases Nat.lt_or_ge j 3 with h|h
   ·rw [World.cell?_setCells_out b _ _ _ _ (fun _ _=>by left;show j<3+0;omega),hcell j (by omega)]
    rcases (show j=0∨j=1∨j=2 by omega) with rfl|rfl|rfl
    ·rw [a0];rfl
    ·rw [a1];rfl
    ·rw [a2];rfl
   ·have h5:=World.cell?_setCells_in b [.int .u8 0,.int .u8 0,.int .u8 0,.int .u8 0,.int .u8 0] (3+0) w1 (fun j hj=>by rw [hcell _ (by simp at hj;omega)];rfl) (j-3) (by simp;omega)
    rw [show 3+0+(j-3)=j by omega] at h5
    rw [h5]
    rcases (show j=3∨j=4∨j=5∨j=6∨j=7 by omega) with rfl|rfl|rfl|rfl|rfl<;>rfl
 ·have hgz:=Go.Lib.run_append_grow_zeros (P:=P) w1 t tn ty e inf z .i64 .i64 hu htn hinf hz (some ⟨b,0,none⟩) 3 cap [.int .u8 114,.int .u8 101,.int .u8 99] (by
   refine run_firstCells_some w1.drew inf.size 3 ⟨b,0,none⟩ 3 cap [.int .u8 114,.int .u8 101,.int .u8 99] (by rw [hs];rfl) fun j v hv=>?_
   have hj:j<3:=by have:=(List.getElem?_eq_some_iff.1 hv).1;simpa using this
   rw [add_form _ _ rfl]
   show w1.cell? ⟨b,0+j,none⟩=some v
   rw [Nat.zero_add,hcell j (by omega)]
   rcases (show j=0∨j=1∨j=2 by omega) with rfl|rfl|rfl
   ·rw [a0];exact hv
   ·rw [a1];exact hv
   ·rw [a2];exact hv) 5 (by decide) (by omega) (by omega) (by decide) (by rw [hbs];decide) (by
   have:cap=3∨cap=4∨cap=5∨cap=6∨cap=7:=by omega
   rw [hbs]
   rcases this with rfl|rfl|rfl|rfl|rfl<;>decide)
  have hgc:8≤grownCap w1 8 cap e∧grownCap w1 8 cap e≤maxLen:=by
   unfold grownCap
   simp only [Question.cut,maxLen]
   have:w1.tape w1.drawn (Question.appendCap 8 cap e)%(2 ^ 63-8)<2 ^ 63-8:=Nat.mod_lt _ (by omega)
   omega
  refine ⟨_,_,hgz,?_,_,_,rfl,.inr (Nat.le_refl _),by simp,hgc.1,hgc.2,?_⟩
  ·exact ⟨rfl,rfl,rfl,by simp,fun k hk _=>Go.RowKit.Below.heap_alloc w1.drew _ k hk⟩
  ·intro j hj
   rw [hzc]
   generalize Builtin.zeroCells z.cells (grownCap w1 (3+5) cap e-(3+5))=rest
   have hh:=heap_new w1.drew (.cells (#[.int .u8 114,.int .u8 101,.int .u8 99] ++ #[.int .u8 0,.int .u8 0,.int .u8 0,.int .u8 0,.int .u8 0]++rest) e)
   rw [show w1.drew.heap.size=w1.heap.size from rfl] at hh
   simp only [World.cell?,hh]
   rw [Array.getElem?_append_left (by simpa using hj)]
   rcases (show j=0∨j=1∨j=2∨j=3∨j=4∨j=5∨j=6∨j=7 by omega) with rfl|rfl|rfl|rfl|rfl|rfl|rfl|rfl<;>rfl
theorem mark_calls (w:World) (im0:Nat→Nat→Prop):Calls Tryz.prog 77 #[.string recS] w fun e w'=>∃ v,e = .returned v∧w.grownBy w' none∧R ⟨w',[],[],w.heap.size,im0,w.heap.size⟩ (.sl 1 false (bl mkr) .any) v:=by
 have mixed:Tryz.prog.follows Departure.mixedOrders=true:=by kernel_rfl
 have t_1:=Tryz.underlying3;have a_1:=Tryz.isAgg3;have z_1:=Tryz.sizeOf3;have v_1:=Tryz.zeroValue3
 have t_3:=Tryz.underlying5;have a_3:=Tryz.isAgg5;have z_3:=Tryz.sizeOf5;have v_3:=Tryz.zeroValue5
 have t_4:=Tryz.underlying9;have a_4:=Tryz.isAgg9;have z_4:=Tryz.sizeOf9;have v_4:=Tryz.zeroValue9
 have t_6:=Tryz.underlying94;have a_6:=Tryz.isAgg94;have z_6:=Tryz.sizeOf94;have v_6:=Tryz.zeroValue94
 obtain ⟨cap,arr,w1,hc,g1,hb,hs1,has,h3,hm,a0,a1,a2⟩:=conv_rec (P:=Tryz.prog) (src:=9) (dst:=94) (e:=5) w t_4 t_6 t_3
 obtain ⟨v,w2,ha,g2,b',cap',rfl,hbb,hlt,h8,hm8,hcell⟩:=app_zeros (P:=Tryz.prog) w1 (t:=94) (tn:=3) (e:=5) t_6 t_1 (cxT.ok 5 _ T5) rfl rfl rfl rfl w.heap.size cap h3 hm arr hb has a0 a1 a2 94
 have hfn:=Tryz.func77
 generalize Tryz.prog=P at *
 go_enter hfn,Tryz.ntmps77
 have h5:(Value.int IntKind.i64 (wrap64 (8-(recS.size:Int)))) = .int .i64 5:=by kernel_rfl
 go_wp2_with (at_builtin;refine Lib.wpList_append_run _ rfl _ _ _ _ rfl _ _ rfl h5 _ _ ha ?_)
 go_ret
 refine ⟨_,rfl,⟨g2.os.trans g1.os,g2.tape.trans g1.tape,g2.output.trans g1.output,Nat.le_trans g1.size g2.size,fun k hk _=>(g2.block k (by omega) (fun e=>by injection e with e;omega)).trans (g1.block k hk (by simp))⟩,?_⟩
 refine .sl 1 _ _ _ _ _ (fun j=>.int .u8 (((mkr.getD j 0).toNat:Nat):Int)) rfl h8 hm8 (fun j hj=>?_) (fun k hk=>by simp [bl,bv,AVal.cells]) (fun k hk j hj=>?_) trivial
 ·refine ⟨rfl,?_,⟨hlt,.inr (.inl ⟨?_,fun i hi=>by simp at hi⟩)⟩,rfl⟩
  ·rw [add_form _ _ rfl]
   show w2.cell? ⟨b',0+j,none⟩=_
   rw [Nat.zero_add]
   exact hcell j (by simpa using hj)
  ·show w.heap.size≤b'
   omega
 ·have hj0:j=0:=by simp [bl,bv,AVal.cells] at hj;omega
  subst hj0
  have hk8:k<8:=by simpa [bl,mkr] using hk
  rw [Nat.mul_one,Nat.add_zero]
  rcases (show k=0∨k=1∨k=2∨k=3∨k=4∨k=5∨k=6∨k=7 by omega) with rfl|rfl|rfl|rfl|rfl|rfl|rfl|rfl<;>exact .int _ _
theorem ref_mark:APure cx 77 [.str [114,101,99]] (.sl 1 false (bl mkr) .any) :=
 apure_shelf (vs:=[.string recS]) (callable_of Tryz.func77 (by kernel_rfl) (by kernel_rfl)) rfl fun w im0 _=>(mark_calls w im0).mono fun e w' h=>h
end Go.Am
end
section
namespace Go.Am
open Go Go.Proofs
set_option maxHeartbeats 8000000
set_option maxRecDepth 100000
section
attribute [local irreducible] aC aL thenQ blockQ scopeQ ALoop AWp
theorem ref_word (n:Nat) (hn:n<18446744073709551616):APure cx 75 [.int .u64 n] (.sl 1 false (bl (putl n 8)) .any):=by
 have hp:=ref_put n 8 hn (by decide)
 refine oP lq75 ?_
 have F:=True.intro
 repeat' (first|refine st1 F hp ?_|(refine cp F ?_ ?_<;>intro h)|refine zT F ?_ ?_)
 all_goals try exact cl True.intro
 all_goals try (simp (disch:=first|omega|(simp only [go_sem];omega)) only [go_sem,seval,reduceCtorEq])
 all_goals try simp
theorem ref_mayRec (p:Rp) (hp:p.Ok):APure cx 71 [.agg (rpC p)] (.bool (decide p.May)):=by
 have h1:=hp.p
 have hro:=rp_one p
 have e:∀ m:Nat,((p.pc:Int)%(m:Int))=((p.pc%m:Nat):Int):=fun m=>by omega
 have e8:((p.pc:Nat):Int)%8=((p.pc%8:Nat):Int):=by omega
 unfold rpC at *
 refine oP lq71 ?_
 have F:=True.intro
 repeat' (first|refine st F ?_|(refine cp F ?_ ?_<;>intro h)|refine zT F ?_ ?_)
 all_goals try exact cl True.intro
 all_goals try (simp (disch:=first|omega|(simp only [go_sem];omega)) only [go_sem,seval,reduceCtorEq])
 all_goals try simp [Rp.May]
 all_goals try exact decide_eq_decide.2 (by omega)
 all_goals try (rintro c (hc|rfl);(obtain ⟨y,_,rfl⟩:=List.mem_map.1 hc;rfl);rfl)
def PartT (S:St) (v:AVal) (b:List UInt8):Prop :=
 (∃ nl tg,v = .sl 1 nl (bl b) tg)∨∃ i off c cs t,v = .view i off b.length c∧S[i]? = some (.cells cs t)∧(cs.drop off).take b.length=bl b∧off+b.length≤cs.length
def PartsT (S:St) (vs:List AVal) (bs:List (List UInt8)):Prop:=vs.length=bs.length∧∀ k,k<vs.length→PartT S (vs.getD k .any) (bs.getD k [])
theorem PartT.more {S:St} {v:AVal} {b:List UInt8} (h:PartT S v b) (R:St):PartT (S++R) v b:=by
 rcases h with h|⟨i,off,c,cs,t,h1,h2,h3,h4⟩
 ·exact .inl h
 ·exact .inr ⟨i,off,c,cs,t,h1,by rw [List.getElem?_append_left (List.getElem?_eq_some_iff.1 h2).1];exact h2,h3,h4⟩
theorem PartsT.more {S:St} {vs:List AVal} {bs:List (List UInt8)} (h:PartsT S vs bs) (R:St):PartsT (S++R) vs bs:=⟨h.1,fun k hk=>(h.2 k hk).more R⟩
theorem isEmpty_bl (l:List UInt8):(bl l).isEmpty=decide (l=[]):=by cases l<;>rfl
theorem ref_joinT {S:St} {vs:List AVal} {bs:List (List UInt8)} (hp:PartsT S vs bs) (nl:Bool) (tg:Tag) (hv:vs.length≤1000) (hb:bs.flatten.length≤1000000000) :
  ACall cx 97 [.sl 1 nl vs tg] S (.sl 1 (decide (bs.flatten=[])) (bl bs.flatten) (.grow S.length)) (S++[.grow bs.flatten.length 1 5]):=by
 obtain ⟨hl,hp⟩:=hp
 have hfl:upTo bs vs.length=bs.flatten:=by unfold upTo;rw [hl,List.take_length]
 refine oA lq97 ?_
 refine st True.intro ?_
 ·refine loop_rule (cxOk.wp _ _) (σ:=Nat) (fun k=>[(4,.int .i64 k),(3,.sl 1 (decide (upTo bs k=[])) (bl (upTo bs k)) (.grow S.length)),(0,.sl 1 nl vs tg)])
   (fun k=>S++[.grow (upTo bs k).length 1 5]) (fun k=>vs.length-k) (fun k=>k≤vs.length) 0 (GStep.nil 3 1 5 rfl) ⟨Nat.zero_le _,Sub.of_all (by simp [Fr.get,frame0,upTo,bl]),by simp [upTo]⟩ ?_
  intro k hk
  have hle:=upTo_le bs k
  by_cases hlt:k<vs.length
  ·have hlt':((k:Nat):Int)<(vs.length:Int):=by omega
   have hs:=upTo_succ (bs:=bs) (k:=k) (by omega)
   have hle2:=upTo_le bs (k+1)
   have hq:=hp k hlt
   rw [hs,List.length_append] at hle2
   generalize bs.getD k []=b at *
   have hdd:(decide (upTo bs k=[])&&decide (b=[]))=decide (upTo bs (k+1)=[]):=by
    rw [hs]
    by_cases h1:upTo bs k=[]<;>by_cases h2:b=[]<;>simp [h1,h2]
   rcases hq with ⟨nl',tg',g⟩|⟨i,off,c,cs,t,g,g2,g3,g4⟩
   ·have F:=(pk5 @hlt' @g @isEmpty_bl @hdd @append_bl)
    repeat' (first|refine st F ?_|(refine cp F ?_ ?_<;>intro h))
    all_goals try exact cl F
    all_goals try (exact ⟨k+1,by omega,Sub.of_all (by simp [Fr.get,hs,append_bl]),by simp [hs],by omega⟩)
    all_goals try simp
    all_goals try omega
   ·have hi:i<S.length:=(List.getElem?_eq_some_iff.1 g2).1
    have g5:∀ y∈(cs.drop off).take b.length,y.one=true:=by rw [g3];exact fun y hy=>bl_one _ y hy
    have F:=(pk7 @hlt' @g @g2 @g3 @isEmpty_bl @hdd @append_bl)
    repeat' (first|refine st F ?_|(refine cp F ?_ ?_<;>intro h)|refine zT F ?_ ?_)
    all_goals try exact cl F
    all_goals try (exact ⟨k+1,by omega,Sub.of_all (by simp [Fr.get,hs,append_bl]),by simp [hs],by omega⟩)
    all_goals try simp
    all_goals try exact ⟨⟨g4,g5⟩,by omega,by omega⟩
  ·have hk2:k=vs.length:=by omega
   subst hk2
   rw [hfl]
   exact wk True.intro
 all_goals try (first|trivial|omega|(simp;done))
def gran0 (b:List UInt8):List UInt8:=b++List.replicate (128-b.length) 0
theorem length_gran0 {b:List UInt8} (h:b.length≤128):(gran0 b).length=128:=by simp [gran0];omega
theorem put_gran0 {b:List UInt8} (h:b.length≤128):putCells (bl [0,0,0,0,0,0,0,0,0,0,0,0,0,0,0,0,0,0,0,0,0,0,0,0,0,0,0,0,0,0,0,0,0,0,0,0,0,0,0,0,0,0,0,0,0,0,0,0,0,0,0,0,0,0,0,0,0,0,0,0,0,0,0,0,0,0,0,0,0,0,0,0,0,0,0,0,0,0,0,0,0,0,0,0,0,0,0,0,0,0,0,0,0,0,0,0,0,0,0,0,0,0,0,0,0,0,0,0,0,0,0,0,0,0,0,0,0,0,0,0,0,0,0,0,0,0,0,0]) 0 (bl b)=bl (gran0 b):=by
 have e:([0,0,0,0,0,0,0,0,0,0,0,0,0,0,0,0,0,0,0,0,0,0,0,0,0,0,0,0,0,0,0,0,0,0,0,0,0,0,0,0,0,0,0,0,0,0,0,0,0,0,0,0,0,0,0,0,0,0,0,0,0,0,0,0,0,0,0,0,0,0,0,0,0,0,0,0,0,0,0,0,0,0,0,0,0,0,0,0,0,0,0,0,0,0,0,0,0,0,0,0,0,0,0,0,0,0,0,0,0,0,0,0,0,0,0,0,0,0,0,0,0,0,0,0,0,0,0,0]:List UInt8)=List.replicate 128 0:=by decide
 rw [e,putCells_eq _ _ _ (by simp;omega)]
 simp [gran0,bl,-List.reduceReplicate]
theorem ref_granule {S:St} (h0:0<S.length) {vs:List AVal} {bs:List (List UInt8)} (hp:PartsT S vs bs) (nl:Bool) (tg:Tag) (hv:vs.length≤1000) (hb:bs.flatten.length≤128) :
  ACall cx 76 [.sl 1 nl vs tg] S (.agg (bl (gran0 bs.flatten))) S:=by
 have hJ:=fun R:St=>ref_joinT (hp.more R) nl tg hv (by omega)
 have hgl:=length_gran0 hb
 have hw:ACall cx 76 [.sl 1 nl vs tg] S (.agg (bl (gran0 bs.flatten))) (S++[.cells (bl (gran0 bs.flatten)) 44,.cells (bl (gran0 bs.flatten)) 44,.grow bs.flatten.length 1 5]):=by
  have hpg:=put_gran0 hb
  generalize hg:gran0 bs.flatten=g at *
  generalize bs.flatten=b at *
  have t0:(bl b).take 128=bl b:=List.take_of_length_le (by rw [length_bl];omega)
  have t1:(bl g).take 128=bl g:=List.take_of_length_le (by rw [length_bl];omega)
  have t2:g.take 128=g:=List.take_of_length_le (by omega)
  have t3:b.take 128=b:=List.take_of_length_le (by omega)
  refine oA lq76 ?_
  exact wk1 (pk8 @hpg @hgl @t0 @t1 @t2 @t3 @o_put0 @repl_s) hJ
 exact hw.keep cxG h0 rfl (by simp [bel,bels_bl]) fun i x hx=>.inl hx
end
end Go.Am
end
section
namespace Go.Am
open Go Go.Proofs
set_option maxHeartbeats 8000000
set_option maxRecDepth 100000
section
attribute [local irreducible] aC aL thenQ blockQ scopeQ ALoop AWp
def rgB (p:Rp) (k:Nat):List UInt8:=((p.regs.take k).map fun n=>putl n 8).flatten
theorem rgB_succ {p:Rp} {k:Nat} (h:k<p.regs.length):rgB p (k+1)=rgB p k++putl (p.regs.getD k 0) 8:=by
 unfold rgB
 rw [List.take_succ_eq_append_getElem h,List.map_append,List.flatten_append]
 simp [List.getD,h]
theorem length_rgB {p:Rp} (h:p.Ok) {k:Nat} (hk:k≤8):(rgB p k).length=8*k:=by
 induction k with
 |zero=>simp [rgB]
 |succ k ih =>
  rw [rgB_succ (by rw [h.l];omega),List.length_append,ih (by omega),putl_length]
  omega
def runB (p:Rp):List UInt8:=[if p.run then 1 else 0]
theorem gran0_rec {p:Rp} (h:p.Ok):gran0 ([mkr,putl p.pc 8,rgB p 8,runB p]:List (List UInt8)).flatten=recG p:=by
 have h8:=length_rgB h (Nat.le_refl 8)
 have hp:=putl_length p.pc 8
 have e:(rbs p 8).flatten=putl p.pc 8++rgB p 8:=rfl
 unfold recG recB gran gran0
 rw [e]
 generalize rgB p 8=R at *
 generalize putl p.pc 8=P at *
 have hm:mkr.length=8:=rfl
 cases hr:p.run
 ·have e2:runB p=[0]:=by simp [runB,hr]
  rw [e2]
  simp only [Bool.false_eq_true,if_false,List.append_nil]
  rw [show 128-(List.flatten [mkr,P,R,[0]]).length=47 by simp [h8,hp,hm],show 120-(P++R).length=47+1 by simp [h8,hp],List.replicate_succ]
  simp
 ·have e2:runB p=[1]:=by simp [runB,hr]
  rw [e2]
  simp only [if_true]
  have h120:(P++R++([1]:List UInt8)).length=73:=by simp [h8,hp]
  rw [h120,show 128-(List.flatten [mkr,P,R,[1]]).length=47 by simp [h8,hp,hm]]
  simp
theorem length_four {p:Rp} (h:p.Ok):(([mkr,putl p.pc 8,rgB p 8,runB p]:List (List UInt8)).flatten).length=81:=by
 simp [length_rgB h (Nat.le_refl 8),putl_length,mkr,runB]
theorem ref_recBytes {S:St} (hS:0<S.length) (p:Rp) (hp:p.Ok):ACall cx 48 [.agg (rpC p)] S (.agg (bl (recG p))) S:=by
 have hl:=hp.l
 have hrl:=length_rpC hp
 have hro:=rp_one p
 have hw0:=ref_word p.pc hp.p
 have hmk:=ref_mark
 have j1:∀ (c:AVal) (r:List AVal) (k:Nat),k<p.regs.length→((c::(wl p.regs++r)).drop (1+k)).take 1=[.int .u64 (p.regs.getD k 0:Nat)]:=fun c r k h=>by
  rw [Nat.add_comm,List.drop_succ_cons]
  exact wl_drop (l:=p.regs) r h
 have j2:=fun (r:List AVal) (n:Nat)=>wl_drop8 (l:=p.regs) r n hl
 have j3:(wl p.regs).length=8:=by simp [wl,hl]
 have j4:(rpC p).take 10=rpC p:=List.take_of_length_le (by omega)
 have h8:=length_rgB hp (Nat.le_refl 8)
 have hfin:∀ (S':St) (i:Nat) (tg:Tag) (t:TypeId),0<S'.length→S'[i]? = some (.cells (bl (runB p)) t)→ACall cx 76 [.sl 1 false [.sl 1 false (bl mkr) .any,.sl 1 false (bl (putl p.pc 8)) .any,.sl 1 false (bl (rgB p 8)) tg,.view i 0 1 1] .full] S' (.agg (bl (recG p))) S':=fun S' i tg t h0 hi=>by
  have hpp:PartsT S' [.sl 1 false (bl mkr) .any,.sl 1 false (bl (putl p.pc 8)) .any,.sl 1 false (bl (rgB p 8)) tg,.view i 0 1 1] [mkr,putl p.pc 8,rgB p 8,runB p]:=⟨rfl,fun k hk=>by
   rcases (show k=0∨k=1∨k=2∨k=3 by simp at hk;omega) with rfl|rfl|rfl|rfl
   ·exact .inl ⟨false,.any,rfl⟩
   ·exact .inl ⟨false,.any,rfl⟩
   ·exact .inl ⟨false,tg,rfl⟩
   ·exact .inr ⟨i,0,1,bl (runB p),t,rfl,hi,by simp [runB,bl],by simp [runB,bl]⟩⟩
  have:=ref_granule h0 hpp false .full (by simp) (by rw [length_four hp];decide)
  rw [gran0_rec hp] at this
  exact this
 have hw:ACall cx 48 [.agg (rpC p)] S (.agg (bl (recG p))) (S++[.cells (rpC p) 47,.cells (bl (recG p)) 44,.grow (rgB p 8).length 1 5,.cells (bl (runB p)) 5]):=by
  have r1:=length_recG hp
  have r2:(recG p).take 128=recG p:=List.take_of_length_le (by omega)
  have r3:(bl (recG p)).take 128=bl (recG p):=List.take_of_length_le (by rw [length_bl];omega)
  unfold rpC at *
  refine acall_fnK cxOk Tryz.func48 (fun _=>false) (fe48.q) (by kernel_rfl) (by dsimp only [Tryz.f48,go_sem,seval,liteO,Option.map,List.map];exact .mk _) ?_
  dsimp only [Tryz.f48,frame0,List.zipIdx,List.map,Nat.reduceAdd]
  repeat' (first|refine aC_seq ?_|refine aC_reg rfl ?_|refine aC_block ?_|refine aC_loop ?_|refine thenQ_normal ?_|refine aL_nil ?_|(apply aL_step;(·exact True.intro);(iterate 2 (·simp (disch:=first|omega|(simp only [go_sem];omega)) only [go_sem,seval]<;>with_reducible rfl));(·simp only [go_sem]<;>with_reducible rfl))|fail)
  ·refine loop_rule (cxOk.wp _ _) (σ:=Nat) (fun k=>[(4,.int .i64 k),(3,.sl 1 (decide (k=0)) (bl (rgB p k)) (.grow (S.length+2))),(2,.ptr (S.length+1) 0),(1,.ptr S.length 0)])
    (fun k=>S++[.cells (.int .u64 p.pc::(wl p.regs++[.bool p.run])) 47,.cells (bl (List.replicate 128 0)) 44,.grow (rgB p k).length 1 5]) (fun k=>8-k) (fun k=>k≤8) 0 (GStep.nil 3 1 5 rfl) ⟨Nat.zero_le _,Sub.of_all (by simp [Fr.get,rgB,bl]),by first|(simp [rgB];done)|(simp [rgB];rfl)⟩ ?_
   intro k hk
   by_cases hlt:k<8
   ·have hlt':((k:Nat):Int)<8:=by omega
    have hwk:=ref_word (p.regs.getD k 0) (by
     rw [show p.regs.getD k 0=p.regs[k]'(by omega) by simp [List.getD,show k<p.regs.length by omega]]
     exact hp.w _ (List.getElem_mem _))
    have hs:=rgB_succ (p:=p) (k:=k) (by omega)
    have hsl:=length_rgB hp (k:=k) (by omega)
    have hkl:k<p.regs.length:=by omega
    have jk:=fun c r=>j1 c r k hkl
    have hpe:(bl (putl (p.regs.getD k 0) 8)).isEmpty=false:=by
     rw [isEmpty_bl];simp [putl]
    have hpl:=putl_length (p.regs.getD k 0) 8
    generalize p.regs.getD k 0=v at hwk hs jk hpe hpl
    repeat' (first|refine aC_seq ?_|refine aC_reg rfl ?_|refine aC_block ?_|refine aC_skip ?_|refine thenQ_normal ?_|refine blockQ_normal ?_|refine aL_nil ?_|(apply aL_step;(·exact True.intro);(iterate 2 (·simp (disch:=first|omega|(simp only [go_sem];omega)) only [go_sem,seval,Nat.mul_one,hlt',jk,j3,hsl,hpe,Bool.and_false,append_bl,decide_true]<;>with_reducible rfl));(·simp only [go_sem]<;>with_reducible rfl))|(refine aC_condT ?_ ?_;(·simp (disch:=first|omega|(simp only [go_sem];omega)) only [go_sem,seval]))|(apply aL_pK cxG (hwk);(iterate 2 (·simp (disch:=first|omega|(simp only [go_sem];omega)) only [go_sem,seval]<;>with_reducible rfl));(·simp only [go_sem]<;>with_reducible rfl);(·simp))|fail)
    all_goals try (first|exact True.intro|exact not_false|omega|(simp (disch:=first|omega|(simp only [go_sem];omega)) only [go_sem,seval]<;>omega))
    all_goals try (exact ⟨k+1,by omega,Sub.of_all (by simp [Fr.get,hs]),by simp [hs,hsl],by omega⟩)
   ·have hk2:k=8:=by omega
    subst hk2
    have hd8:decide (8=0)=false:=rfl
    cases hr:p.run
    ·have hrb:[AVal.int .u8 0]=bl (runB p):=by simp [runB,hr,bl,bv]
     have hf2:=fun (c1 c2:ABox) (n:Nat)=>hfin (S++[c1,c2,.grow n 1 5,.cells (bl (runB p)) 5]) (S.length+3) (.grow (S.length+2)) 5 (by simp) (by rw [List.getElem?_append_right (by omega),Nat.add_sub_cancel_left];rfl)
     rw [← hrb] at hf2 ⊢
     repeat' (first|(apply aL_litW;(case hn=>rfl);(case hg=>simp (disch:=first|omega|(simp only [go_sem];omega)) only [go_sem,seval,decide_false]<;>with_reducible rfl);(case hi=>simp (disch:=first|omega|(simp only [go_sem];omega)) only [go_sem,seval]<;>with_reducible rfl);(case hd=>rfl);(case hj=>simp (disch:=first|omega|(simp only [go_sem];omega)) only [go_sem,seval]<;>with_reducible rfl);(case hl=>simp (disch:=first|omega|(simp only [go_sem];omega)) only [go_sem,seval,decide_false]<;>with_reducible rfl);(case hf=>simp only [go_sem]<;>with_reducible rfl))|refine aC_seq ?_|refine aC_reg rfl ?_|refine aC_skip ?_|refine aC_exit ?_|refine thenQ_normal ?_|refine thenQ_exit ?_|refine blockQ_hit ?_|refine aL_nil ?_|(apply aL_step;(·exact True.intro);(iterate 2 (·simp (disch:=first|omega|(simp only [go_sem];omega)) only [go_sem,seval,j2,j3,decide_false,flatC]<;>with_reducible rfl));(·simp only [go_sem]<;>with_reducible rfl))|(refine aC_condF ?_ ?_;(·simp (disch:=first|omega|(simp only [go_sem];omega)) only [go_sem,seval,decide_false]))|fail)
     refine aC_regB (U:=[(some 24,some 22)]) rfl [(some 24,S.length)] ?_
     repeat' (first|refine aLB_nil ?_|(apply aLB_step;(·exact True.intro);(·exact (by intro h;cases h));(·rfl);(·simp (disch:=first|omega|(simp only [go_sem];omega)) only [go_sem,seval]);(·simp (disch:=first|omega|(simp only [go_sem];omega)) only [go_sem,seval,j3,AVal.cells]<;>with_reducible rfl);(·simp only [go_sem]<;>with_reducible rfl);(·(intro b hb;first|(cases hb;done)|(simp (disch:=first|omega|(simp only [go_sem];omega)) only [loadBox,go_sem,seval] at hb;(try injection hb with hb);subst hb;simp))))|(apply aLB_write;(·exact True.intro);(·rfl);(·rfl);(·simp (disch:=first|omega|(simp only [go_sem];omega)) only [go_sem,seval]);(·simp (disch:=first|omega|(simp only [go_sem];omega)) only [go_sem,seval,AVal.cells]<;>with_reducible rfl);(·simp only [go_sem]<;>with_reducible rfl);(·first|(simp;done)|(intro e he _;simp only [List.mem_cons,List.not_mem_nil,or_false] at he;(repeat' (obtain he|he:=(he:_∨_)));all_goals (subst he;simp (disch:=first|omega|(simp only [go_sem];omega)) only [go_sem,seval,j2,j3,hr,hd8,AVal.cells]))))|(apply aLB_pure cxG (hmk);(case hg=>(simp (disch:=first|omega|(simp only [go_sem];omega)) only [go_sem,seval]));(case hx=>(simp (disch:=first|omega|(simp only [go_sem];omega)) only [go_sem,seval]<;>with_reducible rfl));(case ha=>(simp (disch:=first|omega|(simp only [go_sem];omega)) only [go_sem,seval]<;>with_reducible rfl));(case he=>(simp only [go_sem]<;>with_reducible rfl));(case hcl=>(simp));(case hf=>(simp only [go_sem]<;>with_reducible rfl)))|(apply aLB_pure cxG (hw0);(case hg=>(simp (disch:=first|omega|(simp only [go_sem];omega)) only [go_sem,seval]));(case hx=>(simp (disch:=first|omega|(simp only [go_sem];omega)) only [go_sem,seval]<;>with_reducible rfl));(case ha=>(simp (disch:=first|omega|(simp only [go_sem];omega)) only [go_sem,seval]<;>with_reducible rfl));(case he=>(simp only [go_sem]<;>with_reducible rfl));(case hcl=>(simp));(case hf=>(simp only [go_sem]<;>with_reducible rfl)))|(apply aLB_acall (hf2 _ _ _);(case hg=>(simp (disch:=first|omega|(simp only [go_sem];omega)) only [go_sem,seval]));(case hx=>(simp (disch:=first|omega|(simp only [go_sem];omega)) only [go_sem,seval]<;>with_reducible rfl));(case ha=>(simp (disch:=first|omega|(simp only [go_sem];omega)) only [go_sem,seval]<;>with_reducible rfl));(case he=>(with_reducible rfl));(case hp=>(rfl));(case hf=>(simp only [go_sem]<;>with_reducible rfl));(case hk=>(simp)))|fail)
     repeat' (first|refine aC_ret ?_|refine thenQ_normal ?_|fail)
     all_goals try (first|exact True.intro|exact not_false|omega|(simp (disch:=first|omega|(simp only [go_sem];omega)) only [go_sem,seval]<;>omega))
     all_goals try (simp (disch:=first|omega|(simp only [go_sem];omega)) only [go_sem,seval,r1,r3,o_put0])
    ·have hrb:[AVal.int .u8 1]=bl (runB p):=by simp [runB,hr,bl,bv]
     have hf2:=fun (c1 c2:ABox) (n:Nat)=>hfin (S++[c1,c2,.grow n 1 5,.cells (bl (runB p)) 5]) (S.length+3) (.grow (S.length+2)) 5 (by simp) (by rw [List.getElem?_append_right (by omega),Nat.add_sub_cancel_left];rfl)
     rw [← hrb] at hf2 ⊢
     repeat' (first|(apply aL_litW;(case hn=>rfl);(case hg=>simp (disch:=first|omega|(simp only [go_sem];omega)) only [go_sem,seval,decide_false]<;>with_reducible rfl);(case hi=>simp (disch:=first|omega|(simp only [go_sem];omega)) only [go_sem,seval]<;>with_reducible rfl);(case hd=>rfl);(case hj=>simp (disch:=first|omega|(simp only [go_sem];omega)) only [go_sem,seval]<;>with_reducible rfl);(case hl=>simp (disch:=first|omega|(simp only [go_sem];omega)) only [go_sem,seval,decide_false]<;>with_reducible rfl);(case hf=>simp only [go_sem]<;>with_reducible rfl))|refine aC_seq ?_|refine aC_reg rfl ?_|refine aC_exit ?_|refine thenQ_normal ?_|refine thenQ_exit ?_|refine blockQ_hit ?_|refine aL_nil ?_|(apply aL_step;(·exact True.intro);(iterate 2 (·simp (disch:=first|omega|(simp only [go_sem];omega)) only [go_sem,seval,j2,j3,decide_false,flatC]<;>with_reducible rfl));(·simp only [go_sem]<;>with_reducible rfl))|(refine aC_condT ?_ ?_;(·simp (disch:=first|omega|(simp only [go_sem];omega)) only [go_sem,seval,decide_false]))|(refine aC_condF ?_ ?_;(·simp (disch:=first|omega|(simp only [go_sem];omega)) only [go_sem,seval,decide_false]))|fail)
     refine aC_regB (U:=[(some 24,some 22)]) rfl [(some 24,S.length)] ?_
     repeat' (first|refine aLB_nil ?_|(apply aLB_step;(·exact True.intro);(·exact (by intro h;cases h));(·rfl);(·simp (disch:=first|omega|(simp only [go_sem];omega)) only [go_sem,seval]);(·simp (disch:=first|omega|(simp only [go_sem];omega)) only [go_sem,seval,j3,AVal.cells]<;>with_reducible rfl);(·simp only [go_sem]<;>with_reducible rfl);(·(intro b hb;first|(cases hb;done)|(simp (disch:=first|omega|(simp only [go_sem];omega)) only [loadBox,go_sem,seval] at hb;(try injection hb with hb);subst hb;simp))))|(apply aLB_write;(·exact True.intro);(·rfl);(·rfl);(·simp (disch:=first|omega|(simp only [go_sem];omega)) only [go_sem,seval]);(·simp (disch:=first|omega|(simp only [go_sem];omega)) only [go_sem,seval,AVal.cells]<;>with_reducible rfl);(·simp only [go_sem]<;>with_reducible rfl);(·first|(simp;done)|(intro e he _;simp only [List.mem_cons,List.not_mem_nil,or_false] at he;(repeat' (obtain he|he:=(he:_∨_)));all_goals (subst he;simp (disch:=first|omega|(simp only [go_sem];omega)) only [go_sem,seval,j2,j3,hr,hd8,AVal.cells]))))|(apply aLB_pure cxG (hmk);(case hg=>(simp (disch:=first|omega|(simp only [go_sem];omega)) only [go_sem,seval]));(case hx=>(simp (disch:=first|omega|(simp only [go_sem];omega)) only [go_sem,seval]<;>with_reducible rfl));(case ha=>(simp (disch:=first|omega|(simp only [go_sem];omega)) only [go_sem,seval]<;>with_reducible rfl));(case he=>(simp only [go_sem]<;>with_reducible rfl));(case hcl=>(simp));(case hf=>(simp only [go_sem]<;>with_reducible rfl)))|(apply aLB_pure cxG (hw0);(case hg=>(simp (disch:=first|omega|(simp only [go_sem];omega)) only [go_sem,seval]));(case hx=>(simp (disch:=first|omega|(simp only [go_sem];omega)) only [go_sem,seval]<;>with_reducible rfl));(case ha=>(simp (disch:=first|omega|(simp only [go_sem];omega)) only [go_sem,seval]<;>with_reducible rfl));(case he=>(simp only [go_sem]<;>with_reducible rfl));(case hcl=>(simp));(case hf=>(simp only [go_sem]<;>with_reducible rfl)))|(apply aLB_acall (hf2 _ _ _);(case hg=>(simp (disch:=first|omega|(simp only [go_sem];omega)) only [go_sem,seval]));(case hx=>(simp (disch:=first|omega|(simp only [go_sem];omega)) only [go_sem,seval]<;>with_reducible rfl));(case ha=>(simp (disch:=first|omega|(simp only [go_sem];omega)) only [go_sem,seval]<;>with_reducible rfl));(case he=>(with_reducible rfl));(case hp=>(rfl));(case hf=>(simp only [go_sem]<;>with_reducible rfl));(case hk=>(simp)))|fail)
     repeat' (first|refine aC_ret ?_|refine thenQ_normal ?_|fail)
     all_goals try (first|exact True.intro|exact not_false|omega|(simp (disch:=first|omega|(simp only [go_sem];omega)) only [go_sem,seval]<;>omega))
     all_goals try (simp (disch:=first|omega|(simp only [go_sem];omega)) only [go_sem,seval,r1,r3,o_put0])
     all_goals try simp []
  all_goals try (first|trivial|omega|(simp;done))
  all_goals try simp
  all_goals (rintro c (hc|rfl);(obtain ⟨y,_,rfl⟩:=List.mem_map.1 hc;rfl);rfl)
 exact hw.keep cxG hS rfl (bels_bl _ _) fun i y hy=>.inl hy
end
end Go.Am
end
section
namespace Go.Am
open Go Go.Proofs
set_option maxHeartbeats 8000000
set_option maxRecDepth 100000
section
attribute [local irreducible] aC aL thenQ blockQ scopeQ ALoop AWp
section flat
variable {m:Nat}
theorem flat_len:∀ {ls:List (List AVal)},(∀ x∈ls,x.length=m)→ls.flatten.length=ls.length*m
 |[],_=>by simp
 |x::ls,h=>by
  rw [List.flatten_cons,List.length_append,h x (List.mem_cons_self ..),flat_len fun y hy=>h y (List.mem_cons_of_mem _ hy),List.length_cons,Nat.add_mul]
  omega
theorem flat_drop:∀ {ls:List (List AVal)} {k off:Nat} {x:List AVal},(∀ y∈ls,y.length=m)→ls[k]? = some x→off≤m→ls.flatten.drop (k*m+off)=x.drop off++(ls.drop (k+1)).flatten
 |[],_,_,_,_,h,_=>by simp at h
 |z::ls,0,off,x,hl,h,ho=>by
  have:z=x:=by simpa using h
  subst this
  rw [List.flatten_cons,Nat.zero_mul,Nat.zero_add,List.drop_append_of_le_length (by rw [hl z (List.mem_cons_self ..)];exact ho)]
  rfl
 |z::ls,k+1,off,x,hl,h,ho=>by
  rw [List.flatten_cons,Nat.add_mul,List.drop_append,List.drop_eq_nil_of_le (by rw [hl z (List.mem_cons_self ..)];omega),hl z (List.mem_cons_self ..)]
  rw [show k*m+1*m+off-m=k*m+off by omega,flat_drop (fun y hy=>hl y (List.mem_cons_of_mem _ hy)) (by simpa using h) ho]
  rfl
theorem flat_take {ls:List (List AVal)} {k off n:Nat} {x:List AVal} (hl:∀ y∈ls,y.length=m) (h:ls[k]? = some x) (ho:off+n≤m):(ls.flatten.drop (k*m+off)).take n=(x.drop off).take n:=by
 have hx:=hl x (List.mem_of_getElem? h)
 rw [flat_drop hl h (by omega),List.take_append_of_le_length (by rw [List.length_drop,hx];omega)]
theorem flat_put:∀ {ls:List (List AVal)} {k off:Nat} {x y cs:List AVal},(∀ y∈ls,y.length=m)→ls[k]? = some x→off+cs.length≤m→putCells x off cs=y→putCells ls.flatten (k*m+off) cs=(ls.set k y).flatten
 |[],_,_,_,_,_,_,h,_,_=>by simp at h
 |z::ls,0,off,x,y,cs,hl,h,ho,e=>by
  have:z=x:=by simpa using h
  subst this
  have hz:=hl z (List.mem_cons_self ..)
  rw [List.set_cons_zero,List.flatten_cons,List.flatten_cons,Nat.zero_mul,Nat.zero_add,putCells_eq _ _ _ (by rw [List.length_append];omega),← e,putCells_eq _ _ _ (by omega)]
  rw [List.take_append_of_le_length (by omega),List.drop_append_of_le_length (by omega)]
  simp
 |z::ls,k+1,off,x,y,cs,hl,h,ho,e=>by
  have hz:=hl z (List.mem_cons_self ..)
  have hl':∀ y∈ls,y.length=m:=fun y hy=>hl y (List.mem_cons_of_mem _ hy)
  have hk:k<ls.length:=(List.getElem?_eq_some_iff.1 (by simpa using h:ls[k]? = some x)).1
  have hle:(k+1)*m≤ls.length*m:=Nat.mul_le_mul_right _ hk
  have ih:=flat_put hl' (by simpa using h) ho e
  have hfl:=flat_len hl'
  rw [Nat.add_mul] at hle
  rw [List.set_cons_succ,List.flatten_cons,List.flatten_cons,← ih,putCells_eq _ _ _ (by rw [List.length_append,hz,hfl,Nat.add_mul];omega),putCells_eq _ _ _ (by rw [hfl];omega)]
  rw [List.take_append,List.take_of_length_le (by rw [hz,Nat.add_mul];omega),List.drop_append,List.drop_eq_nil_of_le (by rw [hz,Nat.add_mul];omega),hz,Nat.add_mul]
  rw [show k*m+1*m+off-m=k*m+off by omega,show k*m+1*m+off+cs.length-m=k*m+off+cs.length by omega]
  simp
end flat
def itmC (rd:Int) (r:Rm):List AVal:=.int .i64 rd::rmC r
theorem length_itmC {rd:Int} {r:Rm} (h:r.Ok):(itmC rd r).length=104:=by simp [itmC,length_rmC h]
def rowL (rs:Rs):List (List AVal):=rs.map fun e=>itmC e.1 e.2.1
def rowC (rs:Rs):List AVal:=(rowL rs).flatten
def RsOk (rs:Rs):Prop:=∀ e∈rs,e.2.1.Ok
theorem rowL_len {rs:Rs} (h:RsOk rs):∀ x∈rowL rs,x.length=104:=fun x hx=>by
 obtain ⟨e,he,rfl⟩:=List.mem_map.1 hx
 exact length_itmC (h e he)
theorem length_rowC {rs:Rs} (h:RsOk rs):(rowC rs).length=rs.length*104:=by
 unfold rowC
 rw [flat_len (rowL_len h)]
 simp [rowL]
theorem rowC_get {rs:Rs} (h:RsOk rs) {k:Nat} {e:Int × Rm × Nat} (he:rs[k]? = some e) {off n:Nat} (ho:off+n≤104):((rowC rs).drop (k*104+off)).take n=((itmC e.1 e.2.1).drop off).take n :=
 flat_take (rowL_len h) (by simp [rowL,he]) ho
theorem rowC_get0 {rs:Rs} (h:RsOk rs) {k:Nat} {e:Int × Rm × Nat} (he:rs[k]? = some e):((rowC rs).drop (k*104)).take 1=[.int .i64 e.1]:=rowC_get h he (off:=0) (n:=1) (by decide)
theorem rowC_put {rs:Rs} (h:RsOk rs) {k:Nat} {e:Int × Rm × Nat} (he:rs[k]? = some e) {off:Nat} {cs:List AVal} (ho:off+cs.length≤104) {r:Rm} (hr:putCells (itmC e.1 e.2.1) off cs=itmC e.1 r):putCells (rowC rs) (k*104+off) cs=rowC (rs.set k (e.1,r,e.2.2)):=by
 unfold rowC
 rw [flat_put (rowL_len h) (by simp [rowL,he]) ho hr]
 simp [rowL,List.map_set]
theorem rowC_app (rs:Rs) (e:Int × Rm × Nat):rowC (rs++[e])=rowC rs++itmC e.1 e.2.1:=by simp [rowC,rowL]
structure RefP (S:St) (y q l b sd:Nat) (L:List It) (last:Nat) (rs:Rs) (all:AVal):Prop where
 orc:RorP S q l sd L
 bx:S[y]? = some (.cells [.ptr q 0,all,.int .u64 last] 82)
 nil:rs=[]→∃ z,all = .sl z true [] .any
 row:rs≠[]→all = .ms b 104 rs.length∧S[b]? = some (.row (rowC rs) 99)
 ok:RsOk rs
section
variable {S:St} {y q l b sd:Nat} {L:List It} {last:Nat} {rs:Rs} {all:AVal}
theorem RefP.lt (h:RefP S y q l b sd L last rs all):y<S.length:=(List.getElem?_eq_some_iff.1 h.bx).1
theorem RefP.yo (h:RefP S y q l b sd L last rs all):y≠q∧y≠l:=by
 refine ⟨?_,?_⟩
 ·rintro rfl
  have:=h.bx
  rw [h.orc.bx] at this
  have:=Option.some.inj this
  injection this with _ h2
  exact absurd h2 (by decide)
 ·rintro rfl;have:=h.bx;rw [h.orc.lg] at this;cases this
theorem RefP.more (h:RefP S y q l b sd L last rs all) (R:St):RefP (S++R) y q l b sd L last rs all :=
 ⟨h.orc.more R,by rw [List.getElem?_append_left h.lt];exact h.bx,h.nil,fun hn=>⟨(h.row hn).1,by rw [List.getElem?_append_left (List.getElem?_eq_some_iff.1 (h.row hn).2).1];exact (h.row hn).2⟩,h.ok⟩
theorem RefP.same (h:RefP S y q l b sd L last rs all) {T:St} (h1:T[q]? = S[q]?) (h2:T[l]? = S[l]?) (h3:T[y]? = S[y]?) (h4:rs≠[]→T[b]? = S[b]?):RefP T y q l b sd L last rs all :=
 ⟨h.orc.same h1 h2,h3.trans h.bx,h.nil,fun hn=>⟨(h.row hn).1,(h4 hn).trans (h.row hn).2⟩,h.ok⟩
def atI (rs:Rs) (rd:Int):Int:=match at? rs rd with
 |some p=>(p:Nat)
 |none => -1
theorem at_some {rs:Rs} {rd:Int} {p:Nat} (h:at? rs rd=some p):∃ e,rs[p]? = some e∧e.1=rd∧∀ j,j<p→∀ e',rs[j]? = some e'→e'.1≠rd:=by
 obtain ⟨h1,h2,h3⟩:=List.findIdx?_eq_some_iff_getElem.1 h
 refine ⟨rs[p],by simp [h1],by simpa using h2,fun j hj e' he'=>?_⟩
 have:=h3 j hj
 rw [(List.getElem?_eq_some_iff.1 he').2] at this
 simpa using this
theorem at_none {rs:Rs} {rd:Int} (h:at? rs rd=none) {j:Nat} {e':Int × Rm × Nat} (he':rs[j]? = some e'):e'.1≠rd:=by
 have:=List.findIdx?_eq_none_iff.1 h e' (List.mem_of_getElem? he')
 simpa using this
theorem ref_at (h:RefP S y q l b sd L last rs all) (hl:rs.length≤1000000) (rd:Int):ACall cx 33 [.ptr y 0,.int .i64 rd] S (.int .i64 (atI rs rd)) S:=by
 have hB:=h.bx
 have hy:=h.lt
 by_cases hn:rs=[]
 ·obtain ⟨z,hz⟩:=h.nil hn
  have e:atI rs rd = -1:=by rw [hn];rfl
  rw [e]
  subst hz
  refine oA lq33 ?_
  refine st True.intro ?_
  ·refine loop_rule (cxOk.wp _ _) (σ:=Nat) (fun k=>[(5,.int .i64 0),(1,.int .i64 rd),(0,.ptr y 0)])
    (fun _=>S) (fun k=>0) (fun k=>True) 0 (GStep.refl _ _) ⟨trivial,Sub.of_all (by simp [Fr.get,frame0]),rfl⟩ ?_
   intro k _
   exact wk @hB
  all_goals try (first|trivial|omega|(simp;done))
 ·obtain ⟨ha,hr⟩:=h.row hn
  have hrl:=length_rowC h.ok
  have hb:=(List.getElem?_eq_some_iff.1 hr).1
  subst ha
  have hok:=h.ok
  rcases hat:at? rs rd with _|p
  ·have e:atI rs rd = -1:=by unfold atI;rw [hat]
   rw [e]
   refine oA lq33 ?_
   refine st True.intro ?_
   ·refine loop_rule (cxOk.wp _ _) (σ:=Nat) (fun k=>[(5,.int .i64 k),(1,.int .i64 rd),(0,.ptr y 0)])
     (fun _=>S) (fun k=>rs.length-k) (fun k=>k≤rs.length) 0 (GStep.refl _ _) ⟨Nat.zero_le _,Sub.of_all (by simp [Fr.get,frame0]),rfl⟩ ?_
    intro k hk
    by_cases hlt:k<rs.length
    ·have hlt':((k:Nat):Int)<(rs.length:Int):=by omega
     have he:rs[k]? = some rs[k]:=by simp [hlt]
     have hne:=at_none hat he
     have hg:=rowC_get0 hok he
     generalize rs[k]=e at *
     have F:=(pk6 @hB @hr @hlt' @hg @hrl @hne)
     repeat' (first|refine st F ?_|(refine cp F ?_ ?_<;>intro h))
     all_goals try exact cl F
     all_goals try (exact ⟨k+1,by omega,Sub.of_all (by simp [Fr.get]),rfl,by omega⟩)
     all_goals try simp
     all_goals try omega
    ·have hk2:k=rs.length:=by omega
     subst hk2
     exact wk (pk2 @hB @hr)
   all_goals try (first|trivial|omega|(simp;done))
  ·have e:atI rs rd=(p:Nat):=by unfold atI;rw [hat]
   rw [e]
   obtain ⟨ep,hep,hrd,hlow⟩:=at_some hat
   have hpl:=at_lt hat
   refine oA lq33 ?_
   refine st True.intro ?_
   ·refine loop_rule (cxOk.wp _ _) (σ:=Nat) (fun k=>[(5,.int .i64 k),(1,.int .i64 rd),(0,.ptr y 0)])
     (fun _=>S) (fun k=>rs.length-k) (fun k=>k≤p) 0 (GStep.refl _ _) ⟨Nat.zero_le _,Sub.of_all (by simp [Fr.get,frame0]),rfl⟩ ?_
    intro k hk
    have hlt:k<rs.length:=by omega
    have hlt':((k:Nat):Int)<(rs.length:Int):=by omega
    have he:rs[k]? = some rs[k]:=by simp [hlt]
    rcases Nat.lt_or_ge k p with hkp|hkp
    ·have hne:=hlow k hkp _ he
     have hg:=rowC_get0 hok he
     generalize rs[k]=e at *
     have F:=(pk6 @hB @hr @hlt' @hg @hrl @hne)
     repeat' (first|refine st F ?_|(refine cp F ?_ ?_<;>intro h))
     all_goals try exact cl F
     all_goals try (exact ⟨k+1,by omega,Sub.of_all (by simp [Fr.get]),rfl,by omega⟩)
     all_goals try simp
     all_goals try omega
    ·have hk2:k=p:=by omega
     subst hk2
     have hg:=rowC_get0 hok hep
     rw [hrd] at hg
     exact wk (pk5 @hB @hr @hlt' @hg @hrl)
   all_goals try (first|trivial|omega|(simp;done))
end
end
end Go.Am
end
section
namespace Go.Am
open Go Go.Proofs
set_option maxHeartbeats 8000000
set_option maxRecDepth 100000
section
attribute [local irreducible] aC aL thenQ blockQ scopeQ ALoop AWp
section
variable {S:St} {y q l b sd:Nat} {L:List It} {last:Nat} {rs:Rs} {all:AVal}
theorem rd_get (r:Rcd) (h:r.v.length=32) (n:Nat):(rdC r).drop (n+33)=(.int .i64 r.pg::(bl r.dt++rpC r.rp)).drop n:=by
 unfold rdC
 rw [show n+33=(n+32)+1 from rfl,List.drop_succ_cons,o_drop h]
theorem rd_v (r:Rcd) (h:r.v.length=32):((rdC r).drop 1).take 32=bl r.v:=by
 unfold rdC
 rw [List.drop_succ_cons,List.drop_zero,o_take h]
theorem rd_d (r:Rcd) (h:r.v.length=32) (hd:r.dt.length=128):((rdC r).drop 34).take 128=bl r.dt:=by
 rw [show 34=1+33 from rfl,rd_get r h,List.drop_succ_cons,List.drop_zero,List.take_append_of_le_length (by rw [length_bl];omega),List.take_of_length_le (by rw [length_bl];omega)]
theorem rd_p (r:Rcd) (h:r.v.length=32) (hd:r.dt.length=128) (n:Nat):(rdC r).drop (n+162)=(rpC r.rp).drop n:=by
 rw [show n+162=(n+129)+33 from rfl,rd_get r h,show n+129=(n+128)+1 from rfl,List.drop_succ_cons,List.drop_append,List.drop_eq_nil_of_le (by rw [length_bl];omega),length_bl,hd,Nat.add_sub_cancel,List.nil_append]
theorem ref_meas1 (h:RefP S y q l b sd L last rs all) (hl:L.length≤900000) (hLd:LD L) {m:List UInt8} (hm:m.length=32) {r:Rcd} (hr:r.Ok) (hk:r.k=1) :
  ACall cx 12 [.ptr y 0,.agg (bl m),.agg (rdC r)] S (.agg (bl (askD [] L (dgQ 1 r.v)))) (raskS S q l sd L (dgQ 1 r.v)):=by
 have hx:=length_raskD h.orc (dgQ 1 r.v)
 have hB:=h.bx
 have hy:=h.lt
 have hqlt:=h.orc.lt
 have hw:ACall cx 12 [.ptr y 0,.agg (bl m),.agg (rdC r)] S (.agg (bl (askD [] L (dgQ 1 r.v)))) (raskS S q l sd L (dgQ 1 r.v)++[.cells (bl m) 34,.cells (rdC r) 57,.cells (bl (askD [] L (dgQ 1 r.v))) 34]):=by
  have hrl:=length_rdC hr
  have hv:=rd_v r hr.v
  have hk0:(rdC r).take 1=[.int .i64 1]:=by unfold rdC;rw [hk];rfl
  have hone:=rd_one r
  have hrt:(rdC r).take 172=rdC r:=List.take_of_length_le (by omega)
  have hmt:(bl m).take 32=bl m:=List.take_of_length_le (by rw [length_bl];omega)
  have hml:(bl m).length=32:=by rw [length_bl];exact hm
  have hD:∀ c:ABox,ACall cx 47 [.ptr q 0,.int .i64 1,.view (S.length+1) 1 32 32] (S++[.cells (bl m) 34,.cells (rdC r) 57,c]) (.agg (bl (askD [] L (dgQ 1 r.v)))) (raskS S q l sd L (dgQ 1 r.v)++[.cells (bl m) 34,.cells (rdC r) 57,c]):=fun c=>by
   rw [← raskS_app h.orc]
   refine ref_digest (h.orc.more _) hl hLd 1 r.v (by rw [hr.v];decide) (by rw [hr.v];decide) (.inr ⟨S.length+1,1,32,rdC r,57,by rw [hr.v],?_,by rw [hr.v];exact hv,by rw [hr.v,hrl];decide⟩) ?_
   ·rw [List.getElem?_append_right (by omega),Nat.add_sub_cancel_left];rfl
   ·intro i off n c' e
    injection e with e1
    omega
  have hlen:=length_raskS (S:=S) (q:=q) (l:=l) (sd:=sd) (L:=L) (dgQ 1 r.v)
  generalize raskS S q l sd L (dgQ 1 r.v)=S1 at *
  generalize askD [] L (dgQ 1 r.v)=x at *
  have t1:(bl x).take 32=bl x:=List.take_of_length_le (by rw [length_bl];omega)
  have t2:x.take 32=x:=List.take_of_length_le (by omega)
  generalize rdC r=R at *
  refine oA lq12 ?_
  exact wk1 (pk11 @hlen @hB @hrl @hk0 @hrt @hmt @hml @hx @t1 @t2 @o_put0) hD
 exact h.orc.keep _ rfl hw (by simp [bel,bels_bl])
end
end
end Go.Am
end
