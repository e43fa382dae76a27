/- The reference's realms at any state: Create. (nofull) -/
import Derived.Test.YteemcehaekffeaaGreatO27
set_option linter.unusedVariables false
set_option linter.unusedSimpArgs false
namespace Go.Am
open Go Go.Proofs
set_option maxHeartbeats 8000000
set_option maxRecDepth 100000
section
attribute [local irreducible] aC aL thenQ blockQ scopeQ ALoop AWp
theorem cells_ms (i s n:Nat):(AVal.ms i s n).cells=[.ms i s n]:=rfl
attribute [go_sem] cells_ms
structure Kept (S S':St) (y q l b:Nat) (rs:Rs):Prop where
 len:S.length≤S'.length
 ne:∀ i,i<S.length→i≠y→i≠q→i≠l→(rs≠[]→i≠b)→S'[i]? = S[i]?
theorem RefP.bne {S:St} {y q l b sd:Nat} {L:List It} {last:Nat} {rs:Rs} {all:AVal} (h:RefP S y q l b sd L last rs all) (hn:rs≠[]):b≠y∧b≠q∧b≠l:=by
 obtain ⟨_,hr⟩:=h.row hn
 refine ⟨?_,?_,?_⟩
 ·rintro rfl;rw [h.bx] at hr;cases hr
 ·rintro rfl;rw [h.orc.bx] at hr;cases hr
 ·rintro rfl;rw [h.orc.lg] at hr;cases hr
section
variable {S:St} {y q l b sd:Nat} {L:List It} {last:Nat} {rs:Rs} {all:AVal}
theorem ref_create (h:RefP S y q l b sd L last rs all) (hLl:L.length≤800000) (hLd:LD L) (hrn:rs.length≤100000) {rd root:Int} (hr:at? rs rd=none) (h0:0≤rd) (h1:0≤root) (hla:last<4294967296) {v t:List UInt8} {nodes:Nat} (hv:v.length=32) (ht:t.length=32) (c:Nat) :
  ∃ S' b',ACall cx 10 [.ptr y 0,.int .i64 rd,.int .i64 root,.agg (bl v++[.int .u64 nodes]),.agg (bl t)] S (.tup [.agg (rmC (crR zq [] L last root v nodes t)),.int .i64 0]) S'∧Kept S S' y q l b rs ∧
   RefP S' y q l b' sd (crL zq [] L last v) (last+1) (rs++[(rd,crR zq [] L last root v nodes t,c)]) (.ms b' 104 (rs.length+1)):=by
 have hB:=h.bx
 have hy:=h.lt
 have hyo:=h.yo
 have hqlt:=h.orc.lt
 have hAt:=fun R:St=>ref_at (h.more R) (by omega) rd
 have hat:atI rs rd = -1:=by unfold atI;rw [hr]
 rw [hat] at hAt
 have hbg:=begR_ok hv
 have hM:=fun R:St=>ref_meas1 (h.more R) (by omega) hLd length_zq hbg rfl
 have hP1:=h.orc.ask (dgQ 1 v) rfl
 have hL1:=askL_le (dr:=[]) (L:=L) (dgQ 1 v) false
 have hLd1:LD (askL [] L (dgQ 1 v) false):=hLd.ask _ _ (by show v.length≤_;rw [hv];decide)
 have d1l:=length_raskD h.orc (dgQ 1 v)
 have hlen1:=length_raskS (S:=S) (q:=q) (l:=l) (sd:=sd) (L:=L) (dgQ 1 v)
 have hy1:(raskS S q l sd L (dgQ 1 v))[y]? = _:=(raskS_ne (dgQ 1 v) hyo.1 hyo.2).trans hB
 have hM2:∀ R:St,ACall cx 12 [.ptr y 0,.agg (bl zq),.agg (rdC (begR v))] (S++R) (.agg (bl (askD [] L (dgQ 1 v)))) (raskS S q l sd L (dgQ 1 v)++R):=fun R=>by
  have:=hM R
  rw [raskS_app h.orc] at this
  exact this
 clear hM
 have hP2:RorP ((raskS S q l sd L (dgQ 1 v)).set y (.cells [.ptr q 0,all,.int .u64 (last+1:Nat)] 82)) q l sd (askL [] L (dgQ 1 v) false):=hP1.same (List.getElem?_set_ne hyo.1) (List.getElem?_set_ne hyo.2)
 have hK:∀ R:St,ACall cx 34 [.ptr q 0,.int .i64 8,.sl 1 false (bl (putl (last+1) 8)) .any] ((raskS S q l sd L (dgQ 1 v)).set y (.cells [.ptr q 0,all,.int .u64 (last+1:Nat)] 82)++R) (.agg (bl (askD [] (askL [] L (dgQ 1 v) false) (kyQ zq 8 (putl (last+1) 8)))))
   (raskS ((raskS S q l sd L (dgQ 1 v)).set y (.cells [.ptr q 0,all,.int .u64 (last+1:Nat)] 82)) q l sd (askL [] L (dgQ 1 v) false) (kyQ zq 8 (putl (last+1) 8))++R):=fun R=>by
  rw [← raskS_app hP2]
  exact ref_key (hP2.more R) (by omega) hLd1 8 _ (by rw [putl_length];decide) (by rw [putl_length];decide) (.inl ⟨false,rfl⟩) (fun i off n c' e=>by cases e)
 have hP3:=hP2.ask (kyQ zq 8 (putl (last+1) 8)) rfl
 have d2l:=length_raskD hP2 (kyQ zq 8 (putl (last+1) 8))
 have hlen2:=length_raskS (S:=(raskS S q l sd L (dgQ 1 v)).set y (.cells [.ptr q 0,all,.int .u64 (last+1:Nat)] 82)) (q:=q) (l:=l) (sd:=sd) (L:=askL [] L (dgQ 1 v) false) (kyQ zq 8 (putl (last+1) 8))
 have hy2:(raskS ((raskS S q l sd L (dgQ 1 v)).set y (.cells [.ptr q 0,all,.int .u64 (last+1:Nat)] 82)) q l sd (askL [] L (dgQ 1 v) false) (kyQ zq 8 (putl (last+1) 8)))[y]? = some (.cells [.ptr q 0,all,.int .u64 (last+1:Nat)] 82) :=
  (raskS_ne _ hyo.1 hyo.2).trans (List.getElem?_set_self (by rw [hlen1];exact hy))
 have hne2:∀ i,i≠y→i≠q→i≠l→(raskS ((raskS S q l sd L (dgQ 1 v)).set y (.cells [.ptr q 0,all,.int .u64 (last+1:Nat)] 82)) q l sd (askL [] L (dgQ 1 v) false) (kyQ zq 8 (putl (last+1) 8)))[i]? = S[i]?:=fun i i1 i2 i3=>by
  rw [raskS_ne _ i2 i3,List.getElem?_set_ne (Ne.symm i1),raskS_ne _ i2 i3]
 have hok:=newR_ok (n:=last+1) (root:=root) (nodes:=nodes) hv d1l d2l ht
 have hLe:=ref_le (last+1) (by omega)
 have hrl:=length_rmC hok
 have hcL:crL zq [] L last v=askL [] (askL [] L (dgQ 1 v) false) (kyQ zq 8 (putl (last+1) 8)) false:=rfl
 have hcR:crR zq [] L last root v nodes t=newR (last+1) root v nodes (askD [] L (dgQ 1 v)) (askD [] (askL [] L (dgQ 1 v) false) (kyQ zq 8 (putl (last+1) 8))) t:=rfl
 rw [hcL,hcR]
 have hrexp:rmC (newR (last+1) root v nodes (askD [] L (dgQ 1 v)) (askD [] (askL [] L (dgQ 1 v) false) (kyQ zq 8 (putl (last+1) 8))) t) = .int .u64 (last+1:Nat) :: .int .i64 1 :: .int .i64 root :: .int .u64 nodes::(bl (askD [] L (dgQ 1 v))++(.sl 172 false [.agg (rdC (begR v))] .any::(bl (askD [] (askL [] L (dgQ 1 v) false) (kyQ zq 8 (putl (last+1) 8)))++(.int .u64 0::(bl t++[.int .i64 0]))))):=rfl
 have z99:(bl [0,0,0,0,0,0,0,0,0,0,0,0,0,0,0,0,0,0,0,0,0,0,0,0,0,0,0,0,0,0,0,0]++(AVal.sl 1 true [] .any::(bl [0,0,0,0,0,0,0,0,0,0,0,0,0,0,0,0,0,0,0,0,0,0,0,0,0,0,0,0,0,0,0,0]++(AVal.int .u64 0::(bl [0,0,0,0,0,0,0,0,0,0,0,0,0,0,0,0,0,0,0,0,0,0,0,0,0,0,0,0,0,0,0,0]++[AVal.int .i64 0]))))).take 99=(bl [0,0,0,0,0,0,0,0,0,0,0,0,0,0,0,0,0,0,0,0,0,0,0,0,0,0,0,0,0,0,0,0]++(AVal.sl 1 true [] .any::(bl [0,0,0,0,0,0,0,0,0,0,0,0,0,0,0,0,0,0,0,0,0,0,0,0,0,0,0,0,0,0,0,0]++(AVal.int .u64 0::(bl [0,0,0,0,0,0,0,0,0,0,0,0,0,0,0,0,0,0,0,0,0,0,0,0,0,0,0,0,0,0,0,0]++[AVal.int .i64 0]))))):=by rfl
 have z0:putCells (bl [0,0,0,0,0,0,0,0,0,0,0,0,0,0,0,0,0,0,0,0,0,0,0,0,0,0,0,0,0,0,0,0]++(AVal.sl 1 true [] .any::(bl [0,0,0,0,0,0,0,0,0,0,0,0,0,0,0,0,0,0,0,0,0,0,0,0,0,0,0,0,0,0,0,0]++(AVal.int .u64 0::(bl [0,0,0,0,0,0,0,0,0,0,0,0,0,0,0,0,0,0,0,0,0,0,0,0,0,0,0,0,0,0,0,0]++[AVal.int .i64 0]))))) 0 (bl [0,0,0,0,0,0,0,0,0,0,0,0,0,0,0,0,0,0,0,0,0,0,0,0,0,0,0,0,0,0,0,0]++(AVal.sl 1 true [] .any::(bl [0,0,0,0,0,0,0,0,0,0,0,0,0,0,0,0,0,0,0,0,0,0,0,0,0,0,0,0,0,0,0,0]++(AVal.int .u64 0::(bl [0,0,0,0,0,0,0,0,0,0,0,0,0,0,0,0,0,0,0,0,0,0,0,0,0,0,0,0,0,0,0,0]++[AVal.int .i64 0])))))=(bl [0,0,0,0,0,0,0,0,0,0,0,0,0,0,0,0,0,0,0,0,0,0,0,0,0,0,0,0,0,0,0,0]++(AVal.sl 1 true [] .any::(bl [0,0,0,0,0,0,0,0,0,0,0,0,0,0,0,0,0,0,0,0,0,0,0,0,0,0,0,0,0,0,0,0]++(AVal.int .u64 0::(bl [0,0,0,0,0,0,0,0,0,0,0,0,0,0,0,0,0,0,0,0,0,0,0,0,0,0,0,0,0,0,0,0]++[AVal.int .i64 0]))))):=o_put0 rfl
 have l1:(bl v).length=32:=by rw [length_bl];exact hv
 have l2:(bl t).length=32:=by rw [length_bl];exact ht
 have v1:(bl v).take 32=bl v:=List.take_of_length_le (by omega)
 have v2:(bl t).take 32=bl t:=List.take_of_length_le (by omega)
 have v6:=fun q=>o_take hv q
 have v7:=fun n q=>o_drop hv n q
 have v8:=fun n q cs hh=>o_put d1l n q cs hh
 have v9:=fun n q cs hh=>o_put d2l n q cs hh
 have v10:=fun n q cs hh=>o_put ht n q cs hh
 have v11:=fun n q cs hh=>o_put hv n q cs hh
 have w1:(((last:Nat):Int)+1)%18446744073709551616=((last+1:Nat):Int):=by omega
 have w3:¬ rd<0:=by omega
 have w4:¬ root<0:=by omega
 have w5:((last:Nat):Int)+1=((last+1:Nat):Int):=by omega
 have rdx:rdC (begR v) = .int .i64 1::(bl v++(.int .i64 0::(bl (List.replicate 128 0)++[.int .u64 0,.int .u64 0,.int .u64 0,.int .u64 0,.int .u64 0,.int .u64 0,.int .u64 0,.int .u64 0,.int .u64 0,.bool false]))):=rfl
 have hrd1:=length_rdC hbg
 have hrdo:=rd_one (begR v)
 have hrdt:(rdC (begR v)).take 172=rdC (begR v):=List.take_of_length_le (by omega)
 unfold zq at hM2
 simp only [List.reduceReplicate] at rdx
 rw [rdx] at hM2 hrdo hrdt hrd1
 generalize raskS ((raskS S q l sd L (dgQ 1 v)).set y (.cells [.ptr q 0,all,.int .u64 (last+1:Nat)] 82)) q l sd (askL [] L (dgQ 1 v) false) (kyQ zq 8 (putl (last+1) 8))=S2 at *
 generalize raskS S q l sd L (dgQ 1 v)=S1 at *
 generalize askD [] (askL [] L (dgQ 1 v) false) (kyQ zq 8 (putl (last+1) 8))=d2 at *
 generalize askD [] L (dgQ 1 v)=d1 at *
 have l3:(bl d1).length=32:=by rw [length_bl];exact d1l
 have l4:(bl d2).length=32:=by rw [length_bl];exact d2l
 have v3:(bl d1).take 32=bl d1:=List.take_of_length_le (by omega)
 have v4:(bl d2).take 32=bl d2:=List.take_of_length_le (by omega)
 rw [List.length_set] at hlen2
 have hl2:S2.length=S.length:=hlen2.trans hlen1
 have t99:∀ w:AVal,(bl d1++(w::(bl d2++(.int .u64 0::(bl t++[.int .i64 0]))))).take 99=bl d1++(w::(bl d2++(.int .u64 0::(bl t++[.int .i64 0])))):=fun w=>List.take_of_length_le (by simp [d1l,d2l,ht])
 have t98:∀ w:AVal,(bl d1++(w::(bl [0,0,0,0,0,0,0,0,0,0,0,0,0,0,0,0,0,0,0,0,0,0,0,0,0,0,0,0,0,0,0,0]++(.int .u64 0::(bl t++[.int .i64 0]))))).take 99=bl d1++(w::(bl [0,0,0,0,0,0,0,0,0,0,0,0,0,0,0,0,0,0,0,0,0,0,0,0,0,0,0,0,0,0,0,0]++(.int .u64 0::(bl t++[.int .i64 0])))):=fun w=>List.take_of_length_le (by simp [d1l,ht])
 have one1:∀ (w:AVal) (k:List UInt8),w.one=true→∀ x∈bl d1++(w::(bl k++(.int .u64 0::(bl t++[.int .i64 0])))),x.one=true:=fun w k hw x hx=>by
  simp only [List.mem_append,List.mem_cons,List.not_mem_nil,or_false] at hx
  rcases hx with hc|rfl|hc|rfl|hc|rfl
  ·exact bl_one _ _ hc
  ·exact hw
  ·exact bl_one _ _ hc
  ·rfl
  ·exact bl_one _ _ hc
  ·rfl
 have hrdo2:=fun x hx=>hrdo x (List.mem_cons_of_mem _ hx)
 have hvn:∀ c∈bl v++[AVal.int .u64 nodes],c.one=true:=fun x hx=>by
  rcases List.mem_append.1 hx with hc|hc
  ·exact bl_one _ _ hc
  ·rw [List.mem_singleton.1 hc];rfl
 have har:∀ (n:Nat) (e:TypeId),TypeDesc.array 32 5=TypeDesc.array n e→(cx.T e).isSome=true:=fun n e h=>by
  injection h with _ h2
  subst h2
  rw [T5]
  rfl
 have fin:∀ (T J:St) (X:List AVal) (r0:AVal),T.length=S.length→J.length=6→(∀ i,i≠y→(rs≠[]→i≠b)→T[i]? = S2[i]?)→T[y]? = some (.cells [.ptr q 0,.ms (S.length+6) 104 (rs.length+1),.int .u64 (last+1:Nat)] 82) →
   Wds X (rowC (rs++[(rd,newR (last+1) root v nodes d1 d2 t,c)]))→Wd r0 (.tup [.agg (rmC (newR (last+1) root v nodes d1 d2 t)),.int .i64 0])→ACall cx 10 [.ptr y 0,.int .i64 rd,.int .i64 root,.agg (bl v++[.int .u64 nodes]),.agg (bl t)] S r0 (T++(J++[.row X 99])) →
   ∃ S' b',ACall cx 10 [.ptr y 0,.int .i64 rd,.int .i64 root,.agg (bl v++[.int .u64 nodes]),.agg (bl t)] S (.tup [.agg (rmC (newR (last+1) root v nodes d1 d2 t)),.int .i64 0]) S'∧Kept S S' y q l b rs ∧
    RefP S' y q l b' sd (askL [] (askL [] L (dgQ 1 v) false) (kyQ zq 8 (putl (last+1) 8)) false) (last+1) (rs++[(rd,newR (last+1) root v nodes d1 d2 t,c)]) (.ms b' 104 (rs.length+1)):=fun T J X r0 hTl hJ hT hTy hX hr0 hw=>by
  have hrow:(T++(J++[.row X 99]))[S.length+6]? = some (.row X 99):=by
   rw [List.getElem?_append_right (by omega),hTl,Nat.add_sub_cancel_left,List.getElem?_append_right (by omega),hJ];rfl
  have hlt:S.length+6<(T++(J++[ABox.row X 99])).length:=(List.getElem?_eq_some_iff.1 hrow).1
  have hlow:∀ i,i<S.length→((T++(J++[ABox.row X 99])).set (S.length+6) (.row (rowC (rs++[(rd,newR (last+1) root v nodes d1 d2 t,c)])) 99))[i]? = T[i]?:=fun i hi=>by
   rw [List.getElem?_set_ne (by omega),List.getElem?_append_left (by omega)]
  refine ⟨_,S.length+6,(hw.wdRow (S.length+6) (rowC (rs++[(rd,newR (last+1) root v nodes d1 d2 t,c)])) hrow hX).wdRes hr0,⟨by rw [List.length_set];omega,fun i hi i1 i2 i3 i4=>?_⟩,?_⟩
  ·rw [hlow i hi,hT i i1 i4,hne2 i i1 i2 i3]
  ·refine ⟨hP3.same ?_ ?_,?_,fun e=>by simp at e,fun _=>⟨by simp,List.getElem?_set_self hlt⟩,fun e he=>?_⟩
   ·rw [hlow q hqlt.1,hT q (Ne.symm hyo.1) (fun hn=>Ne.symm (h.bne hn).2.1)]
   ·rw [hlow l hqlt.2,hT l (Ne.symm hyo.2) (fun hn=>Ne.symm (h.bne hn).2.2)]
   ·rw [hlow y hy,hTy]
   ·rcases List.mem_append.1 he with he|he
    ·exact h.ok e he
    ·rw [List.mem_singleton.1 he];exact hok
 by_cases hn:rs=[]
 ·obtain ⟨zz,rfl⟩:=h.nil hn
  have hw:ACall cx 10 [.ptr y 0,.int .i64 rd,.int .i64 root,.agg (bl v++[.int .u64 nodes]),.agg (bl t)] S (.tup [.agg (.int .u64 (last+1:Nat) :: .int .i64 1 :: .int .i64 root :: .int .u64 nodes::(bl d1++(.sl 172 false [.agg (rdC (begR v))] .full::(bl d2++(.int .u64 0::(bl t++[.int .i64 0])))))),.int .i64 0])
    (S2.set y (.cells [.ptr q 0,.ms (S.length+6) 104 1,.int .u64 (last+1:Nat)] 82)++[.cells (bl v++[.int .u64 nodes]) 42,.cells (bl t) 34,.cells (.int .u64 (last+1:Nat) :: .int .i64 1 :: .int .i64 root :: .int .u64 nodes::(bl d1++(.sl 172 false [.agg (rdC (begR v))] .full::(bl d2++(.int .u64 0::(bl t++[.int .i64 0])))))) 37,.cells (rdC (begR v)) 57,.cells (bl d1) 34,.cells (.int .u64 (last+1:Nat) :: .int .i64 1 :: .int .i64 root :: .int .u64 nodes::(bl d1++(.sl 172 false [.agg (rdC (begR v))] .full::(bl d2++(.int .u64 0::(bl t++[.int .i64 0])))))) 37,.row (.int .i64 rd :: .int .u64 (last+1:Nat) :: .int .i64 1 :: .int .i64 root :: .int .u64 nodes::(bl d1++(.sl 172 false [.agg (rdC (begR v))] .full::(bl d2++(.int .u64 0::(bl t++[.int .i64 0])))))) 99]):=by
   rw [rdx]
   refine acall_fnK cxOk Tryz.func10 (fun _=>false) (fe10.q) (by kernel_rfl) (by dsimp only [Tryz.f10,go_sem,seval,liteO,Option.map,List.map];exact .mk _) ?_
   dsimp only [Tryz.f10,frame0,List.zipIdx,List.map,Nat.reduceAdd]
   repeat' (first|refine aC_seq ?_|refine aC_reg rfl ?_|refine aC_skip ?_|refine thenQ_normal ?_|refine aL_nil ?_|(apply aL_step;(·exact True.intro);(iterate 2 (·simp (disch:=first|omega|(simp only [go_sem];omega)) only [go_sem,seval,hy1,hlen1,l1,l3,v6,w3,w4,w5,hrd1,hrdt,o_put0,o_putP,decide_false]<;>with_reducible rfl));(·simp only [go_sem]<;>with_reducible rfl))|(refine aC_condF ?_ ?_;(·simp (disch:=first|omega|(simp only [go_sem];omega)) only [go_sem,seval]))|(apply aL_aK (hAt _);(·rfl);(iterate 2 (·simp (disch:=first|omega|(simp only [go_sem];omega)) only [go_sem,seval]<;>with_reducible rfl));(·simp only [go_sem]<;>with_reducible rfl))|(apply aL_aK (hM2 _);(·rfl);(iterate 2 (·simp (disch:=first|omega|(simp only [go_sem];omega)) only [go_sem,seval]<;>with_reducible rfl));(·simp only [go_sem]<;>with_reducible rfl))|fail)
   refine aC_regH (U:=[(some 44,some 14),(some 47,some 14),(some 48,some 14),(some 49,some 14),(some 51,some 14)]) rfl [(some 44,y),(some 47,S.length),(some 48,S.length+4),(some 49,S.length+3),(some 51,S.length+1)] [(S.length+5,.cells (.int .u64 0 :: .int .i64 0 :: .int .i64 0 :: .int .u64 0::(bl [0,0,0,0,0,0,0,0,0,0,0,0,0,0,0,0,0,0,0,0,0,0,0,0,0,0,0,0,0,0,0,0]++(AVal.sl 1 true [] .any::(bl [0,0,0,0,0,0,0,0,0,0,0,0,0,0,0,0,0,0,0,0,0,0,0,0,0,0,0,0,0,0,0,0]++(AVal.int .u64 0::(bl [0,0,0,0,0,0,0,0,0,0,0,0,0,0,0,0,0,0,0,0,0,0,0,0,0,0,0,0,0,0,0,0]++[AVal.int .i64 0])))))) 37)] 1 ?_
   repeat' (first|refine aLH_nil ?_|(apply aLH_step;(·exact True.intro);(·rfl);(·rfl);(·simp (disch:=first|omega|(simp only [go_sem];omega)) only [go_sem,seval]);(·simp (disch:=first|omega|(simp only [go_sem];omega)) only [go_sem,seval,hlen1,l1,l2,l3,v2,v3,v7,v8,hrd1,hrdt,put_z,o_putP,List.replicate]<;>with_reducible rfl);(·simp only [go_sem]<;>with_reducible rfl);(·(intro b hb;first|(cases hb;done)|(simp (disch:=first|omega|(simp only [go_sem];omega)) only [loadBox,go_sem,seval] at hb;(try injection hb with hb);subst hb;simp))))|(apply aLH_write;(·exact True.intro);(·rfl);(·rfl);(·rfl);(·simp (disch:=first|omega|(simp only [go_sem];omega)) only [go_sem,seval]);(·simp (disch:=first|omega|(simp only [go_sem];omega)) only [go_sem,seval,hlen1,l2,l3,o_put0,List.replicate]<;>with_reducible rfl);(·simp only [go_sem]<;>with_reducible rfl);(·first|(intro e he;simp only [List.mem_cons,List.not_mem_nil,or_false] at he;subst he;simp (disch:=first|omega|(simp only [go_sem];omega)) only [go_sem,seval,hlen1];(try simp only [Option.some.injEq,reduceCtorEq,not_false_eq_true]);done)|(simp;done));(·first|(intro e he;simp only [List.mem_cons,List.not_mem_nil,or_false] at he;subst he;simp (disch:=first|omega|(simp only [go_sem];omega)) only [go_sem,seval,hlen1];(try simp only [Option.some.injEq,reduceCtorEq,not_false_eq_true]);done)|(simp;done));(·first|(intro e _ hU;simp only [List.mem_cons,Prod.mk.injEq,reduceCtorEq,and_false,or_false,List.not_mem_nil] at hU;done)|simp))|(apply aLH_alloc (S.length+5);(case hg=>(simp (disch:=first|omega|(simp only [go_sem];omega)) only [go_sem,seval]));(case hi=>(simp (disch:=first|omega|(simp only [go_sem];omega)) only [go_sem,seval,List.replicate]<;>with_reducible rfl));(case hs=>(simp (disch:=first|omega|(simp only [go_sem];omega)) only [go_sem,seval,hlen1,List.replicate]<;>with_reducible rfl));(case hS=>(simp (disch:=first|omega|(simp only [go_sem];omega)) only [go_sem,seval,hlen1,List.replicate]<;>with_reducible rfl));(case hf=>(simp only [go_sem]<;>with_reducible rfl));(case hH=>(simp));(case hk=>(first|(simp;done)|(intro e he _;simp only [List.mem_cons,List.not_mem_nil,or_false] at he;(repeat' (obtain he|he:=(he:_∨_)));all_goals (subst he;simp (disch:=first|omega|(simp only [go_sem];omega)) only [go_sem,seval,hlen1,List.replicate])))))|fail)
   repeat' (first|refine aC_seq ?_|refine thenQ_normal ?_|fail)
   refine aC_regB (U:=[(some 56,some 61)]) rfl [(some 56,y),(some 60,y)] ?_
   repeat' (first|refine aLB_nil ?_|(apply aLB_step;(·exact True.intro);(·exact (by intro h;cases h));(·rfl);(·simp (disch:=first|omega|(simp only [go_sem];omega)) only [go_sem,seval]);(·simp (disch:=first|omega|(simp only [go_sem];omega)) only [go_sem,seval,l2,l3,l4,v8,o_putP,hl2]<;>with_reducible rfl);(·simp only [go_sem]<;>with_reducible rfl);(·(intro b hb;first|(cases hb;done)|(simp (disch:=first|omega|(simp only [go_sem];omega)) only [loadBox,go_sem,seval] at hb;(try injection hb with hb);subst hb;simp))))|(apply aLB_write;(·exact True.intro);(·rfl);(·rfl);(·simp (disch:=first|omega|(simp only [go_sem];omega)) only [go_sem,seval]);(·simp (disch:=first|omega|(simp only [go_sem];omega)) only [go_sem,seval,l2,l3,l4,v8,o_putP,hl2]<;>with_reducible rfl);(·simp only [go_sem]<;>with_reducible rfl);(·first|(simp;done)|(intro e he _;simp only [List.mem_cons,List.not_mem_nil,or_false] at he;(repeat' (obtain he|he:=(he:_∨_)));all_goals (subst he;simp (disch:=first|omega|(simp only [go_sem];omega)) only [go_sem,seval,hB,hy1,hlen1,z99,z0,l1,l2,l3,l4,v1,v2,v3,v4,v6,v7,v8,v9,v10,v11,w1,w3,w4,w5,hrd1,hrdt,put_z,o_put0,o_putP,o_put2,t99,t98,d1l,d2l,ht,hv,decide_true,decide_false,hl2,hy2]))))|(apply aLB_pure cxG (hLe);(case hg=>(simp (disch:=first|omega|(simp only [go_sem];omega)) only [go_sem,seval]));(case hx=>(simp (disch:=first|omega|(simp only [go_sem];omega)) only [go_sem,seval]<;>with_reducible rfl));(case ha=>(simp (disch:=first|omega|(simp only [go_sem];omega)) only [go_sem,seval]<;>with_reducible rfl));(case he=>(simp only [go_sem]<;>with_reducible rfl));(case hcl=>(simp));(case hf=>(simp only [go_sem]<;>with_reducible rfl)))|(apply aLB_acall (hK _);(case hg=>(simp (disch:=first|omega|(simp only [go_sem];omega)) only [go_sem,seval]));(case hx=>(simp (disch:=first|omega|(simp only [go_sem];omega)) only [go_sem,seval]<;>with_reducible rfl));(case ha=>(simp (disch:=first|omega|(simp only [go_sem];omega)) only [go_sem,seval]<;>with_reducible rfl));(case he=>(with_reducible rfl));(case hp=>(rfl));(case hf=>(simp only [go_sem]<;>with_reducible rfl));(case hk=>(simp)))|fail)
   repeat' (first|(apply aL_appR;(case hg=>simp (disch:=first|omega|(simp only [go_sem];omega)) only [go_sem,seval]<;>with_reducible rfl);(case hx=>simp (disch:=first|omega|(simp only [go_sem];omega)) only [go_sem,seval]<;>with_reducible rfl);(case hv=>simp (disch:=first|omega|(simp only [go_sem];omega)) only [go_sem,seval]<;>with_reducible rfl);(case h=>(simp (disch:=first|omega|(simp only [go_sem];omega)) only [aAppR,srcC,srcCOk,flatC,go_sem,seval,hl2];with_reducible rfl));(case hf=>simp only [go_sem]<;>with_reducible rfl);(case' hs=>((try simp only []);(fail_if_success (show False)))))|refine aC_seq ?_|refine aC_reg rfl ?_|refine aC_ret ?_|refine thenQ_normal ?_|refine aL_nil ?_|(apply aL_step;(·exact True.intro);(iterate 2 (·simp (disch:=first|omega|(simp only [go_sem];omega)) only [go_sem,seval,l2,l3,l4,o_put0,t99,hl2,hy2]<;>with_reducible rfl));(·simp only [go_sem]<;>with_reducible rfl))|fail)
   all_goals try (first|exact True.intro|exact not_false|omega|(simp (disch:=first|omega|(simp only [go_sem];omega)) only [go_sem,seval]<;>omega))
   all_goals try (simp (disch:=first|omega|(simp only [go_sem];omega)) only [go_sem,seval,l2,l3,l4,t99,hl2,List.flatten_cons,List.flatten_nil,List.append_nil])
   all_goals try exact fun _ _ h=>h.elim
   all_goals try exact one1 _ _ rfl
   all_goals try exact ⟨fun _ _ h=>h.elim,one1 _ _ rfl⟩
   all_goals try exact fun c hc=>by rw [List.mem_singleton.1 hc];rfl
  refine fin (S2.set y (.cells [.ptr q 0,.ms (S.length+6) 104 1,.int .u64 (last+1:Nat)] 82)) [_,_,_,_,_,_] _ _ (by rw [List.length_set];exact hl2) rfl (fun i i1 _=>List.getElem?_set_ne (Ne.symm i1)) (by rw [List.getElem?_set_self (by omega),hn];rfl) ?_ ?_ hw
  ·rw [hn]
   simp only [List.nil_append,rowC,rowL,List.map_cons,List.map_nil,List.flatten_cons,List.flatten_nil,List.append_nil,itmC]
   rw [hrexp]
   simp [Wds,Wd,Wds_app,Wds_refl]
  ·rw [hrexp]
   simp [Wds,Wd,Wds_app,Wds_refl]
 ·obtain ⟨rfl,hrow⟩:=h.row hn
  obtain ⟨bn1,bn2,bn3⟩:=h.bne hn
  have hbS2:S2[b]? = some (.row (rowC rs) 99):=(hne2 b bn1 bn2 bn3).trans hrow
  have hbl:=(List.getElem?_eq_some_iff.1 hrow).1
  have hrcl:=length_rowC h.ok
  have hw:ACall cx 10 [.ptr y 0,.int .i64 rd,.int .i64 root,.agg (bl v++[.int .u64 nodes]),.agg (bl t)] S (.tup [.agg (.int .u64 (last+1:Nat) :: .int .i64 1 :: .int .i64 root :: .int .u64 nodes::(bl d1++(.sl 172 false [.agg (rdC (begR v))] .full::(bl d2++(.int .u64 0::(bl t++[.int .i64 0])))))),.int .i64 0])
    ((S2.set b .dead).set y (.cells [.ptr q 0,.ms (S.length+6) 104 (rs.length+1),.int .u64 (last+1:Nat)] 82)++[.cells (bl v++[.int .u64 nodes]) 42,.cells (bl t) 34,.cells (.int .u64 (last+1:Nat) :: .int .i64 1 :: .int .i64 root :: .int .u64 nodes::(bl d1++(.sl 172 false [.agg (rdC (begR v))] .full::(bl d2++(.int .u64 0::(bl t++[.int .i64 0])))))) 37,.cells (rdC (begR v)) 57,.cells (bl d1) 34,.cells (.int .u64 (last+1:Nat) :: .int .i64 1 :: .int .i64 root :: .int .u64 nodes::(bl d1++(.sl 172 false [.agg (rdC (begR v))] .full::(bl d2++(.int .u64 0::(bl t++[.int .i64 0])))))) 37,.row (rowC rs++(.int .i64 rd :: .int .u64 (last+1:Nat) :: .int .i64 1 :: .int .i64 root :: .int .u64 nodes::(bl d1++(.sl 172 false [.agg (rdC (begR v))] .full::(bl d2++(.int .u64 0::(bl t++[.int .i64 0]))))))) 99]):=by
   rw [rdx]
   refine acall_fnK cxOk Tryz.func10 (fun _=>false) (fe10.q) (by kernel_rfl) (by dsimp only [Tryz.f10,go_sem,seval,liteO,Option.map,List.map];exact .mk _) ?_
   dsimp only [Tryz.f10,frame0,List.zipIdx,List.map,Nat.reduceAdd]
   repeat' (first|refine aC_seq ?_|refine aC_reg rfl ?_|refine aC_skip ?_|refine thenQ_normal ?_|refine aL_nil ?_|(apply aL_step;(·exact True.intro);(iterate 2 (·simp (disch:=first|omega|(simp only [go_sem];omega)) only [go_sem,seval,hy1,hlen1,l1,l3,v6,w3,w4,w5,hrd1,hrdt,o_put0,o_putP,decide_false]<;>with_reducible rfl));(·simp only [go_sem]<;>with_reducible rfl))|(refine aC_condF ?_ ?_;(·simp (disch:=first|omega|(simp only [go_sem];omega)) only [go_sem,seval]))|(apply aL_aK (hAt _);(·rfl);(iterate 2 (·simp (disch:=first|omega|(simp only [go_sem];omega)) only [go_sem,seval]<;>with_reducible rfl));(·simp only [go_sem]<;>with_reducible rfl))|(apply aL_aK (hM2 _);(·rfl);(iterate 2 (·simp (disch:=first|omega|(simp only [go_sem];omega)) only [go_sem,seval]<;>with_reducible rfl));(·simp only [go_sem]<;>with_reducible rfl))|fail)
   refine aC_regH (U:=[(some 44,some 14),(some 47,some 14),(some 48,some 14),(some 49,some 14),(some 51,some 14)]) rfl [(some 44,y),(some 47,S.length),(some 48,S.length+4),(some 49,S.length+3),(some 51,S.length+1)] [(S.length+5,.cells (.int .u64 0 :: .int .i64 0 :: .int .i64 0 :: .int .u64 0::(bl [0,0,0,0,0,0,0,0,0,0,0,0,0,0,0,0,0,0,0,0,0,0,0,0,0,0,0,0,0,0,0,0]++(AVal.sl 1 true [] .any::(bl [0,0,0,0,0,0,0,0,0,0,0,0,0,0,0,0,0,0,0,0,0,0,0,0,0,0,0,0,0,0,0,0]++(AVal.int .u64 0::(bl [0,0,0,0,0,0,0,0,0,0,0,0,0,0,0,0,0,0,0,0,0,0,0,0,0,0,0,0,0,0,0,0]++[AVal.int .i64 0])))))) 37)] 1 ?_
   repeat' (first|refine aLH_nil ?_|(apply aLH_step;(·exact True.intro);(·rfl);(·rfl);(·simp (disch:=first|omega|(simp only [go_sem];omega)) only [go_sem,seval]);(·simp (disch:=first|omega|(simp only [go_sem];omega)) only [go_sem,seval,hlen1,l1,l2,l3,v2,v3,v7,v8,hrd1,hrdt,put_z,o_putP,List.replicate]<;>with_reducible rfl);(·simp only [go_sem]<;>with_reducible rfl);(·(intro b hb;first|(cases hb;done)|(simp (disch:=first|omega|(simp only [go_sem];omega)) only [loadBox,go_sem,seval] at hb;(try injection hb with hb);subst hb;simp))))|(apply aLH_write;(·exact True.intro);(·rfl);(·rfl);(·rfl);(·simp (disch:=first|omega|(simp only [go_sem];omega)) only [go_sem,seval]);(·simp (disch:=first|omega|(simp only [go_sem];omega)) only [go_sem,seval,hlen1,l2,l3,o_put0,List.replicate]<;>with_reducible rfl);(·simp only [go_sem]<;>with_reducible rfl);(·first|(intro e he;simp only [List.mem_cons,List.not_mem_nil,or_false] at he;subst he;simp (disch:=first|omega|(simp only [go_sem];omega)) only [go_sem,seval,hlen1];(try simp only [Option.some.injEq,reduceCtorEq,not_false_eq_true]);done)|(simp;done));(·first|(intro e he;simp only [List.mem_cons,List.not_mem_nil,or_false] at he;subst he;simp (disch:=first|omega|(simp only [go_sem];omega)) only [go_sem,seval,hlen1];(try simp only [Option.some.injEq,reduceCtorEq,not_false_eq_true]);done)|(simp;done));(·first|(intro e _ hU;simp only [List.mem_cons,Prod.mk.injEq,reduceCtorEq,and_false,or_false,List.not_mem_nil] at hU;done)|simp))|(apply aLH_alloc (S.length+5);(case hg=>(simp (disch:=first|omega|(simp only [go_sem];omega)) only [go_sem,seval]));(case hi=>(simp (disch:=first|omega|(simp only [go_sem];omega)) only [go_sem,seval,List.replicate]<;>with_reducible rfl));(case hs=>(simp (disch:=first|omega|(simp only [go_sem];omega)) only [go_sem,seval,hlen1,List.replicate]<;>with_reducible rfl));(case hS=>(simp (disch:=first|omega|(simp only [go_sem];omega)) only [go_sem,seval,hlen1,List.replicate]<;>with_reducible rfl));(case hf=>(simp only [go_sem]<;>with_reducible rfl));(case hH=>(simp));(case hk=>(first|(simp;done)|(intro e he _;simp only [List.mem_cons,List.not_mem_nil,or_false] at he;(repeat' (obtain he|he:=(he:_∨_)));all_goals (subst he;simp (disch:=first|omega|(simp only [go_sem];omega)) only [go_sem,seval,hlen1,List.replicate])))))|fail)
   repeat' (first|refine aC_seq ?_|refine thenQ_normal ?_|fail)
   refine aC_regB (U:=[(some 56,some 61)]) rfl [(some 56,y),(some 60,y)] ?_
   repeat' (first|refine aLB_nil ?_|(apply aLB_step;(·exact True.intro);(·exact (by intro h;cases h));(·rfl);(·simp (disch:=first|omega|(simp only [go_sem];omega)) only [go_sem,seval]);(·simp (disch:=first|omega|(simp only [go_sem];omega)) only [go_sem,seval,l2,l3,l4,v8,o_putP,hl2]<;>with_reducible rfl);(·simp only [go_sem]<;>with_reducible rfl);(·(intro b hb;first|(cases hb;done)|(simp (disch:=first|omega|(simp only [go_sem];omega)) only [loadBox,go_sem,seval] at hb;(try injection hb with hb);subst hb;simp))))|(apply aLB_write;(·exact True.intro);(·rfl);(·rfl);(·simp (disch:=first|omega|(simp only [go_sem];omega)) only [go_sem,seval]);(·simp (disch:=first|omega|(simp only [go_sem];omega)) only [go_sem,seval,l2,l3,l4,v8,o_putP,hl2]<;>with_reducible rfl);(·simp only [go_sem]<;>with_reducible rfl);(·first|(simp;done)|(intro e he _;simp only [List.mem_cons,List.not_mem_nil,or_false] at he;(repeat' (obtain he|he:=(he:_∨_)));all_goals (subst he;simp (disch:=first|omega|(simp only [go_sem];omega)) only [go_sem,seval,hB,hy1,hlen1,z99,z0,l1,l2,l3,l4,v1,v2,v3,v4,v6,v7,v8,v9,v10,v11,w1,w3,w4,w5,hrd1,hrdt,put_z,o_put0,o_putP,o_put2,t99,t98,d1l,d2l,ht,hv,decide_true,decide_false,hl2,hy2]))))|(apply aLB_pure cxG (hLe);(case hg=>(simp (disch:=first|omega|(simp only [go_sem];omega)) only [go_sem,seval]));(case hx=>(simp (disch:=first|omega|(simp only [go_sem];omega)) only [go_sem,seval]<;>with_reducible rfl));(case ha=>(simp (disch:=first|omega|(simp only [go_sem];omega)) only [go_sem,seval]<;>with_reducible rfl));(case he=>(simp only [go_sem]<;>with_reducible rfl));(case hcl=>(simp));(case hf=>(simp only [go_sem]<;>with_reducible rfl)))|(apply aLB_acall (hK _);(case hg=>(simp (disch:=first|omega|(simp only [go_sem];omega)) only [go_sem,seval]));(case hx=>(simp (disch:=first|omega|(simp only [go_sem];omega)) only [go_sem,seval]<;>with_reducible rfl));(case ha=>(simp (disch:=first|omega|(simp only [go_sem];omega)) only [go_sem,seval]<;>with_reducible rfl));(case he=>(with_reducible rfl));(case hp=>(rfl));(case hf=>(simp only [go_sem]<;>with_reducible rfl));(case hk=>(simp)))|fail)
   repeat' (first|(apply aL_appR;(case hg=>simp (disch:=first|omega|(simp only [go_sem];omega)) only [go_sem,seval]<;>with_reducible rfl);(case hx=>simp (disch:=first|omega|(simp only [go_sem];omega)) only [go_sem,seval]<;>with_reducible rfl);(case hv=>simp (disch:=first|omega|(simp only [go_sem];omega)) only [go_sem,seval]<;>with_reducible rfl);(case h=>(simp (disch:=first|omega|(simp only [go_sem];omega)) only [aAppR,srcC,srcCOk,flatC,go_sem,seval,hl2,hbS2,hrcl];with_reducible rfl));(case hf=>simp only [go_sem]<;>with_reducible rfl);(case' hs=>((try simp only [false_and,and_false]);(fail_if_success (show False)))))|refine aC_seq ?_|refine aC_reg rfl ?_|refine aC_ret ?_|refine thenQ_normal ?_|refine aL_nil ?_|(apply aL_step;(·exact True.intro);(iterate 2 (·simp (disch:=first|omega|(simp only [go_sem];omega)) only [go_sem,seval,l2,l3,l4,o_put0,t99,hl2,hy2]<;>with_reducible rfl));(·simp only [go_sem]<;>with_reducible rfl))|fail)
   all_goals try (first|exact True.intro|exact not_false|omega|(simp (disch:=first|omega|(simp only [go_sem];omega)) only [go_sem,seval]<;>omega))
   all_goals try (simp (disch:=first|omega|(simp only [go_sem];omega)) only [go_sem,seval,l2,l3,l4,t99,hl2,List.flatten_cons,List.flatten_nil,List.append_nil])
   all_goals try exact fun _ _ h=>h.elim
   all_goals try exact one1 _ _ rfl
   all_goals try exact ⟨fun _ _ h=>h.elim,one1 _ _ rfl⟩
   all_goals try exact fun c hc=>by rw [List.mem_singleton.1 hc];rfl
  refine fin ((S2.set b .dead).set y (.cells [.ptr q 0,.ms (S.length+6) 104 (rs.length+1),.int .u64 (last+1:Nat)] 82)) [_,_,_,_,_,_] _ _ (by rw [List.length_set,List.length_set];exact hl2) rfl (fun i i1 i2=>by rw [List.getElem?_set_ne (Ne.symm i1),List.getElem?_set_ne (Ne.symm (i2 hn))]) (by rw [List.getElem?_set_self (by rw [List.length_set];omega)]) ?_ ?_ hw
  ·rw [rowC_app]
   unfold itmC
   rw [hrexp]
   simp [Wds,Wd,Wds_app,Wds_refl]
  ·rw [hrexp]
   simp [Wds,Wd,Wds_app,Wds_refl]
end
end
end Go.Am
