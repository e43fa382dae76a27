/- The reference's realms at any state: a record more. -/
import Derived.Test.YteemcehaekffeaaGreatO28
set_option linter.unusedVariables false
set_option linter.unusedSimpArgs false
section
namespace Go.Am
open Go Go.Proofs
set_option maxHeartbeats 8000000
set_option maxRecDepth 100000
section
attribute [local irreducible] aC aL thenQ blockQ scopeQ ALoop AWp
theorem cells_at {rs:Rs} (h:RsOk rs) {p:Nat} {e:Int × Rm × Nat} (he:rs[p]? = some e):(rowL rs)[p]? = some (itmC e.1 e.2.1):=by simp [rowL,he]
theorem itm_meas (rd:Int) {r:Rm} (h:r.Ok):((itmC rd r).drop 5).take 32=bl r.meas:=by
 unfold itmC rmC
 simp only [List.drop_succ_cons,List.drop_zero]
 rw [o_take h.m]
theorem itm_log (rd:Int) {r:Rm} (h:r.Ok):((itmC rd r).drop 37).take 1=[.sl 172 r.nl (gls rdC r.log) .any]:=by
 unfold itmC rmC
 simp only [List.drop_succ_cons]
 rw [show 32=0+32 from rfl,o_drop h.m]
 rfl
theorem itm_meas_put (rd:Int) {r:Rm} (h:r.Ok) {d:List UInt8} (hd:d.length=32):putCells (itmC rd r) 5 (bl d)=itmC rd { r with meas:=d }:=by
 unfold itmC rmC
 simp only [go_sem]
 rw [o_putP (by rw [length_bl,length_bl,h.m,hd])]
def itmW (rd:Int) (r:Rm) (w:AVal):List AVal:=.int .i64 rd :: .int .u64 r.inst :: .int .i64 r.st :: .int .i64 r.root :: .int .u64 r.nodes::(bl r.meas++(w::(bl r.key++(.int .u64 r.ctr::(bl r.tree++[.int .i64 r.recs])))))
theorem itm_log_put (rd:Int) {r:Rm} (h:r.Ok) (w:AVal):putCells (itmC rd r) 37 [w]=itmW rd r w:=by
 unfold itmC rmC itmW
 simp only [go_sem]
 rw [show 32=0+32 from rfl,o_put h.m _ _ _ (by simp)]
 rfl
theorem flat_wd:∀ {ls:List (List AVal)} {p:Nat} {x x':List AVal},Wds x x'→Wds (ls.set p x).flatten (ls.set p x').flatten
 |[],_,_,_,_=>by simp [Wds]
 |z::ls,0,x,x',h=>by
  rw [List.set_cons_zero,List.set_cons_zero,List.flatten_cons,List.flatten_cons]
  exact Wds_append h (Wds_refl _)
 |z::ls,p+1,x,x',h=>by
  rw [List.set_cons_succ,List.set_cons_succ,List.flatten_cons,List.flatten_cons]
  exact (Wds_app _ _ _).2 (flat_wd h)
theorem rs_set_ok {rs:Rs} (h:RsOk rs) {p:Nat} {e:Int × Rm × Nat} (he:e.2.1.Ok):RsOk (rs.set p e):=fun x hx=>by
 rcases List.mem_or_eq_of_mem_set hx with hx|rfl
 ·exact h x hx
 ·exact he
section
variable {S:St} {y q l b sd:Nat} {L:List It} {last:Nat} {rs:Rs} {all:AVal}
theorem RefP.setRow (h:RefP S y q l b sd L last rs all) {rs':Rs} (hl:rs'.length=rs.length) (hok:RsOk rs') {T:St} (hq:T[q]? = S[q]?) (hll:T[l]? = S[l]?) (hy:T[y]? = S[y]?) (hb:rs≠[]→T[b]? = some (.row (rowC rs') 99)):RefP T y q l b sd L last rs' all:=by
 have hn:rs'=[]↔rs=[]:=by rw [← List.length_eq_zero_iff,← List.length_eq_zero_iff,hl]
 exact ⟨h.orc.same hq hll,hy.trans h.bx,fun e=>h.nil (hn.1 e),fun e=>⟨by rw [hl];exact (h.row fun k=>e (hn.2 k)).1,hb fun k=>e (hn.2 k)⟩,hok⟩
theorem ref_grow_none (h:RefP S y q l b sd L last rs all) (hrn:rs.length≤1000000) {rd:Int} (hr:at? rs rd=none) {rec:Rcd} (hrec:rec.Ok):ACall cx 68 [.ptr y 0,.int .i64 rd,.agg (rdC rec)] S (.int .i64 6) S:=by
 have hAt:=fun R:St=>ref_at (h.more R) hrn rd
 rw [show atI rs rd = -1 by unfold atI;rw [hr]] at hAt
 have hy:=h.lt
 have hone:=rd_one rec
 have hw:ACall cx 68 [.ptr y 0,.int .i64 rd,.agg (rdC rec)] S (.int .i64 6) (S++[.cells (rdC rec) 57]):=by
  generalize rdC rec=R at *
  refine oA lq68 ?_
  exact wk1 True.intro hAt
 exact hw.keep cxG (by omega) rfl rfl fun i x hx=>.inl hx
theorem ref_grow_state (h:RefP S y q l b sd L last rs all) (hrn:rs.length≤1000000) {rd:Int} {p:Nat} {e:Int × Rm × Nat} (hp:at? rs rd=some p) (he:rs[p]? = some e) (hst:¬ e.2.1.st=1) {rec:Rcd} (hrec:rec.Ok):ACall cx 68 [.ptr y 0,.int .i64 rd,.agg (rdC rec)] S (.int .i64 7) S:=by
 have hAt:=fun R:St=>ref_at (h.more R) hrn rd
 rw [show atI rs rd=(p:Nat) by unfold atI;rw [hp]] at hAt
 have hy:=h.lt
 have hB:=h.bx
 have hone:=rd_one rec
 have hpl:=at_lt hp
 have hn:rs≠[]:=by rintro rfl;simp at hpl
 obtain ⟨rfl,hrow⟩:=h.row hn
 have hbl:=(List.getElem?_eq_some_iff.1 hrow).1
 have hrcl:=length_rowC h.ok
 have g1:((rowC rs).drop (p*104+2)).take 1=[.int .i64 e.2.1.st]:=rowC_get h.ok he (by decide)
 have hw:ACall cx 68 [.ptr y 0,.int .i64 rd,.agg (rdC rec)] S (.int .i64 7) (S++[.cells (rdC rec) 57]):=by
  generalize rdC rec=R at *
  generalize rowC rs=X0 at *
  refine oA lq68 ?_
  exact wk1 (pk7 @hB @hrow @hrcl @hpl @g1 @hst @Nat.add_assoc) hAt
 exact hw.keep cxG (by omega) rfl rfl fun i x hx=>.inl hx
end
end
end Go.Am
end
section
namespace Go.Am
open Go Go.Proofs
set_option maxHeartbeats 8000000
set_option maxRecDepth 100000
section
attribute [local irreducible] aC aL thenQ blockQ scopeQ ALoop AWp
section
variable {S:St} {y q l b sd:Nat} {L:List It} {last:Nat} {rs:Rs} {all:AVal}
theorem ref_grow (h:RefP S y q l b sd L last rs all) (hrn:rs.length≤1000000) {rd:Int} {p:Nat} {e:Int × Rm × Nat} (hp:at? rs rd=some p) (he:rs[p]? = some e) (hst:e.2.1.st=1) (hnl:e.2.1.nl=false) (hlg:e.2.1.log.length≤900000) {rec:Rcd} (hrec:rec.Ok)
  (Q:Qn) (hQ:Q.key.length=32) (hM:∀ R:St,ACall cx 12 [.ptr y 0,.agg (bl e.2.1.meas),.agg (rdC rec)] (S++R) (.agg (bl (askD [] L Q))) (raskS S q l sd L Q++R)) :
  ∃ S',ACall cx 68 [.ptr y 0,.int .i64 rd,.agg (rdC rec)] S (.int .i64 0) S'∧Kept S S' y q l b rs∧RefP S' y q l b sd (askL [] L Q false) last (rs.set p (e.1,grw e.2.1 (askD [] L Q) rec,e.2.2)) all:=by
 have hAt:=fun R:St=>ref_at (h.more R) hrn rd
 rw [show atI rs rd=(p:Nat) by unfold atI;rw [hp]] at hAt
 have hy:=h.lt
 have hB:=h.bx
 have hone:=rd_one rec
 have hrl:=length_rdC hrec
 have hrt:(rdC rec).take 172=rdC rec:=List.take_of_length_le (by omega)
 have hpl:=at_lt hp
 have hn:rs≠[]:=by rintro rfl;simp at hpl
 obtain ⟨hall,hrow⟩:=h.row hn
 have hbl:=(List.getElem?_eq_some_iff.1 hrow).1
 have hrcl:=length_rowC h.ok
 have hyo:=h.yo
 obtain ⟨bn1,bn2,bn3⟩:=h.bne hn
 have heo:=h.ok e (List.mem_of_getElem? he)
 have hd:=length_raskD h.orc Q
 have g1:((rowC rs).drop (p*104+2)).take 1=[.int .i64 e.2.1.st]:=rowC_get h.ok he (by decide)
 have g2:((rowC rs).drop (p*104+5)).take 32=bl e.2.1.meas:=(rowC_get h.ok he (by decide)).trans (itm_meas e.1 heo)
 have he1ok:({ e.2.1 with meas:=askD [] L Q }:Rm).Ok:=⟨hd,heo.k,heo.t,heo.l,heo.n⟩
 have hok1:RsOk (rs.set p (e.1,{ e.2.1 with meas:=askD [] L Q },e.2.2)):=rs_set_ok h.ok he1ok
 have he1:(rs.set p (e.1,{ e.2.1 with meas:=askD [] L Q },e.2.2))[p]? = some (e.1,{ e.2.1 with meas:=askD [] L Q },e.2.2):=List.getElem?_set_self hpl
 have p1:putCells (rowC rs) (p*104+5) (bl (askD [] L Q))=rowC (rs.set p (e.1,{ e.2.1 with meas:=askD [] L Q },e.2.2)):=rowC_put h.ok he (by rw [length_bl,hd];decide) (itm_meas_put e.1 heo hd)
 have g3:((rowC (rs.set p (e.1,{ e.2.1 with meas:=askD [] L Q },e.2.2))).drop (p*104+37)).take 1=[.sl 172 false (gls rdC e.2.1.log) .any]:=(rowC_get hok1 he1 (by decide)).trans ((itm_log e.1 he1ok).trans (by rw [← hnl]))
 have hr1l:=length_rowC hok1
 rw [List.length_set] at hr1l
 have p2:∀ w:AVal,putCells (rowC (rs.set p (e.1,{ e.2.1 with meas:=askD [] L Q },e.2.2))) (p*104+37) [w]=((rowL (rs.set p (e.1,{ e.2.1 with meas:=askD [] L Q },e.2.2))).set p (itmW e.1 { e.2.1 with meas:=askD [] L Q } w)).flatten:=fun w =>
  flat_put (rowL_len hok1) (cells_at hok1 he1) (by simp) (itm_log_put e.1 he1ok w)
 have hbS1:(raskS S q l sd L Q)[b]? = some (.row (rowC rs) 99):=(raskS_ne Q bn2 bn3).trans hrow
 have hyS1:(raskS S q l sd L Q)[y]? = _:=(raskS_ne Q hyo.1 hyo.2).trans hB
 have hlen:=length_raskS (S:=S) (q:=q) (l:=l) (sd:=sd) (L:=L) Q
 have hPr:=h.orc.ask Q hQ
 have hne:∀ i,i≠q→i≠l→(raskS S q l sd L Q)[i]? = S[i]?:=fun i i1 i2=>raskS_ne Q i1 i2
 have hfin:∀ (T:St) (x:AVal),T=(raskS S q l sd L Q).set b (.row ((rowL (rs.set p (e.1,{ e.2.1 with meas:=askD [] L Q },e.2.2))).set p (itmW e.1 { e.2.1 with meas:=askD [] L Q } (.sl 172 false (gls rdC e.2.1.log++[.agg (rdC rec)]) (.grow (S.length+1))))).flatten 99)++[.cells (rdC rec) 57,.grow (e.2.1.log.length+1) 172 57] →
   ACall cx 68 [.ptr y 0,.int .i64 rd,.agg (rdC rec)] S (.int .i64 0) T→∃ S',ACall cx 68 [.ptr y 0,.int .i64 rd,.agg (rdC rec)] S (.int .i64 0) S'∧Kept S S' y q l b rs∧RefP S' y q l b sd (askL [] L Q false) last (rs.set p (e.1,grw e.2.1 (askD [] L Q) rec,e.2.2)) all:=fun T _ hT hw=>by
  have hTb:T[b]? = some (.row ((rowL (rs.set p (e.1,{ e.2.1 with meas:=askD [] L Q },e.2.2))).set p (itmW e.1 { e.2.1 with meas:=askD [] L Q } (.sl 172 false (gls rdC e.2.1.log++[.agg (rdC rec)]) (.grow (S.length+1))))).flatten 99):=by
   rw [hT,List.getElem?_append_left (by rw [List.length_set];omega),List.getElem?_set_self (by omega)]
  have hTlen:S.length<T.length:=by rw [hT,List.length_append,List.length_set,hlen];simp
  have hTne:∀ i,i<S.length→i≠b→T[i]? = (raskS S q l sd L Q)[i]?:=fun i hi i1=>by
   rw [hT,List.getElem?_append_left (by rw [List.length_set];omega),List.getElem?_set_ne (Ne.symm i1)]
  have hrows:rowC (rs.set p (e.1,grw e.2.1 (askD [] L Q) rec,e.2.2))=((rowL (rs.set p (e.1,{ e.2.1 with meas:=askD [] L Q },e.2.2))).set p (itmC e.1 (grw e.2.1 (askD [] L Q) rec))).flatten:=by
   unfold rowC rowL
   rw [List.map_set,List.map_set,List.set_set]
  refine ⟨_,hw.wdRow b (rowC (rs.set p (e.1,grw e.2.1 (askD [] L Q) rec,e.2.2))) hTb ?_,⟨by rw [List.length_set];omega,fun i hi i1 i2 i3 i4=>?_⟩,?_⟩
  ·rw [hrows]
   refine flat_wd ?_
   unfold itmW itmC rmC grw
   rw [← gls_snoc,hnl]
   simp [Wds,Wd,Wds_app,Wds_refl]
  ·rw [List.getElem?_set_ne (Ne.symm (i4 hn)),hTne i hi (i4 hn),hne i i2 i3]
  ·have hP0:RefP (raskS S q l sd L Q) y q l b sd (askL [] L Q false) last rs all:=⟨hPr,hyS1,h.nil,fun _=>⟨hall,hbS1⟩,h.ok⟩
   refine hP0.setRow (by simp) (rs_set_ok h.ok (grw_ok heo hd hrec hnl)) ?_ ?_ ?_ (fun _=>List.getElem?_set_self (by omega))
   ·rw [List.getElem?_set_ne bn2,hTne q h.orc.lt.1 (Ne.symm bn2)]
   ·rw [List.getElem?_set_ne bn3,hTne l h.orc.lt.2 (Ne.symm bn3)]
   ·rw [List.getElem?_set_ne bn1,hTne y hy (Ne.symm bn1)]
 subst hall
 refine hfin _ .nilp rfl ?_
 have p3:=p2 (.sl 172 false (gls rdC e.2.1.log++[.agg (rdC rec)]) (.grow (S.length+1)))
 clear hfin hPr hne hok1 he1 he1ok p2
 generalize ((rowL (rs.set p (e.1,{ e.2.1 with meas:=askD [] L Q },e.2.2))).set p (itmW e.1 { e.2.1 with meas:=askD [] L Q } (.sl 172 false (gls rdC e.2.1.log++[.agg (rdC rec)]) (.grow (S.length+1))))).flatten=X2 at *
 generalize raskS S q l sd L Q=S1 at *
 generalize hX1:rowC (rs.set p (e.1,{ e.2.1 with meas:=askD [] L Q },e.2.2))=X1 at *
 generalize rowC rs=X0 at *
 generalize askD [] L Q=d at *
 have td:(bl d).take 32=bl d:=List.take_of_length_le (by rw [length_bl];omega)
 generalize rdC rec=R at *
 have hgl:(gls rdC e.2.1.log).length=e.2.1.log.length:=length_gls _ _
 generalize gls rdC e.2.1.log=G at *
 refine acall_fnK cxOk Tryz.func68 (fun _=>false) (fe68.q) (by kernel_rfl) (by dsimp only [Tryz.f68,go_sem,seval,liteO,Option.map,List.map];exact .mk _) ?_
 dsimp only [Tryz.f68,frame0,List.zipIdx,List.map,Nat.reduceAdd]
 repeat' (first|refine aC_seq ?_|refine aC_reg rfl ?_|refine aC_skip ?_|refine thenQ_normal ?_|refine aL_nil ?_|(apply aL_step;(·exact True.intro);(iterate 2 (·simp (disch:=first|omega|(simp only [go_sem];omega)) only [go_sem,seval,hB,hrow,hrcl,hpl,g1,g2,hst,hrt,hbS1,p1,hd,Nat.add_assoc,decide_false]<;>with_reducible rfl));(·simp only [go_sem]<;>with_reducible rfl))|(refine aC_condF ?_ ?_;(·simp (disch:=first|omega|(simp only [go_sem];omega)) only [go_sem,seval]))|(refine aC_condP (by simp (disch:=first|omega|(simp only [go_sem];omega)) only [go_sem,seval]<;>with_reducible rfl) ?_ ?_<;>(intro h;first|(exfalso;omega)|skip))|(apply aL_aK (hAt _);(·rfl);(iterate 2 (·simp (disch:=first|omega|(simp only [go_sem];omega)) only [go_sem,seval]<;>with_reducible rfl));(·simp only [go_sem]<;>with_reducible rfl))|(apply aL_aK (hM _);(·rfl);(iterate 2 (·simp (disch:=first|omega|(simp only [go_sem];omega)) only [go_sem,seval]<;>with_reducible rfl));(·simp only [go_sem]<;>with_reducible rfl))|fail)
 refine aC_regB (U:=[(some 42,some 41)]) rfl [(some 40,b),(some 42,S.length)] ?_
 repeat' (first|refine aLB_nil ?_|(apply aLB_step;(·exact True.intro);(·exact (by intro h;cases h));(·rfl);(·simp (disch:=first|omega|(simp only [go_sem];omega)) only [go_sem,seval]);(·simp (disch:=first|omega|(simp only [go_sem];omega)) only [go_sem,seval,hlen,hr1l,g3,p3,hrt,hrl,hgl,Nat.add_assoc,Bool.and_false]<;>with_reducible rfl);(·simp only [go_sem]<;>with_reducible rfl);(·(intro b hb;first|(cases hb;done)|(simp (disch:=first|omega|(simp only [go_sem];omega)) only [loadBox,go_sem,seval] at hb;(try injection hb with hb);subst hb;simp))))|(apply aLB_write;(·exact True.intro);(·rfl);(·rfl);(·simp (disch:=first|omega|(simp only [go_sem];omega)) only [go_sem,seval]);(·simp (disch:=first|omega|(simp only [go_sem];omega)) only [go_sem,seval,hlen,hr1l,p3,hgl,Nat.add_assoc,Bool.and_false]<;>with_reducible rfl);(·simp only [go_sem]<;>with_reducible rfl);(·first|(simp;done)|(intro e he _;simp only [List.mem_cons,List.not_mem_nil,or_false] at he;(repeat' (obtain he|he:=(he:_∨_)));all_goals (subst he;simp (disch:=first|omega|(simp only [go_sem];omega)) only [go_sem,seval,hlen]))))|fail)
 repeat' (first|refine aC_seq ?_|refine aC_reg rfl ?_|refine aC_ret ?_|refine thenQ_normal ?_|refine aL_nil ?_|(apply aL_step;(·exact True.intro);(iterate 2 (·simp (disch:=first|omega|(simp only [go_sem];omega)) only [go_sem,seval]<;>with_reducible rfl));(·simp only [go_sem]<;>with_reducible rfl))|fail)
 all_goals try (first|exact True.intro|exact not_false|omega|(simp (disch:=first|omega|(simp only [go_sem];omega)) only [go_sem,seval]<;>omega))
 all_goals try (simp (disch:=first|omega|(simp only [go_sem];omega)) only [go_sem,seval,List.set_set])
end
end
end Go.Am
end
section
namespace Go.Am
open Go Go.Proofs
set_option maxHeartbeats 8000000
set_option maxRecDepth 100000
section
attribute [local irreducible] aC aL thenQ blockQ scopeQ ALoop AWp
theorem at_keys (rs:Rs) (rd:Int):at? rs rd=(rs.map (·.1)).findIdx? fun k=>decide (k=rd):=by
 unfold at?
 rw [List.findIdx?_map]
 rfl
theorem at_set {rs:Rs} {p:Nat} {e:Int × Rm × Nat} (he:rs[p]? = some e) (r:Rm) (c:Nat) (rd:Int):at? (rs.set p (e.1,r,c)) rd=at? rs rd:=by
 rw [at_keys,at_keys,List.map_set]
 congr 1
 apply List.ext_getElem?
 intro i
 by_cases hi:p=i
 ·subst hi
  rw [List.getElem?_set_self (by rw [List.length_map];exact (List.getElem?_eq_some_iff.1 he).1),List.getElem?_map,he]
  rfl
 ·rw [List.getElem?_set_ne hi]
theorem Kept.of_more {S R S':St} {y q l b:Nat} {rs:Rs} (h:Kept (S++R) S' y q l b rs):Kept S S' y q l b rs :=
 ⟨by have:=h.len;rw [List.length_append] at this;omega,fun i hi i1 i2 i3 i4=>by
  rw [h.ne i (by rw [List.length_append];omega) i1 i2 i3 i4,List.getElem?_append_left hi]⟩
theorem Kept.refl (S:St) (y q l b:Nat) (rs:Rs):Kept S S y q l b rs:=⟨Nat.le_refl _,fun _ _ _ _ _ _=>rfl⟩
section
variable {S:St} {y q l b sd:Nat} {L:List It} {last:Nat} {rs:Rs} {all:AVal}
theorem ref_data_page (h0:0<S.length) (rd:Int) {pg:Int} {g:List UInt8} (hg:g.length=128) (hpg:pg<0∨128≤pg):ACall cx 36 [.ptr y 0,.int .i64 rd,.int .i64 pg,.agg (bl g)] S (.int .i64 2) S:=by
 have hgo:∀ c∈bl g,c.one=true:=fun c hc=>bl_one _ _ hc
 have hw:ACall cx 36 [.ptr y 0,.int .i64 rd,.int .i64 pg,.agg (bl g)] S (.int .i64 2) (S++[.cells (bl g) 44]):=by
  rcases hpg with hpg|hpg
  ·refine oA lq36 ?_
   exact wk @hpg
  ·have h1:¬ pg<0:=by omega
   have h2:127<pg:=by omega
   refine oA lq36 ?_
   exact wk (pk2 @h1 @h2)
 exact hw.keep cxG h0 rfl rfl fun i x hx=>.inl hx
theorem ref_data_by (h:RefP S y q l b sd L last rs all) (rd:Int) {pg:Nat} {g:List UInt8} (hg:g.length=128) (hpg:pg<128) {r:AVal} {S':St} (hG:ACall cx 68 [.ptr y 0,.int .i64 rd,.agg (rdC (dataR pg g))] (S++[.cells (bl g) 44]) r S') :
  ACall cx 36 [.ptr y 0,.int .i64 rd,.int .i64 pg,.agg (bl g)] S r S':=by
 have hgo:∀ c∈bl g,c.one=true:=fun c hc=>bl_one _ _ hc
 have hgl:(bl g).length=128:=by rw [length_bl];exact hg
 have hgt:(bl g).take 128=bl g:=List.take_of_length_le (by omega)
 have h1:¬ ((pg:Nat):Int)<0:=by omega
 have h2:¬ 127<((pg:Nat):Int):=by omega
 have rdx:rdC (dataR pg g) = .int .i64 2::(bl [0,0,0,0,0,0,0,0,0,0,0,0,0,0,0,0,0,0,0,0,0,0,0,0,0,0,0,0,0,0,0,0]++(.int .i64 pg::(bl g++[.int .u64 0,.int .u64 0,.int .u64 0,.int .u64 0,.int .u64 0,.int .u64 0,.int .u64 0,.int .u64 0,.int .u64 0,.bool false]))):=rfl
 rw [rdx] at hG
 have g2:g.take 128=g:=List.take_of_length_le (by omega)
 refine oA lq36 ?_
 exact wk1 (pk9 @h1 @h2 @hgl @hgt @hg @g2 @put_z @o_put0 @o_putP) hG
theorem ref_data_none (h:RefP S y q l b sd L last rs all) (hrn:rs.length≤1000000) {rd:Int} (hr:at? rs rd=none) {pg:Nat} {g:List UInt8} (hg:g.length=128) (hpg:pg<128):ACall cx 36 [.ptr y 0,.int .i64 rd,.int .i64 pg,.agg (bl g)] S (.int .i64 6) S :=
 (ref_data_by h rd hg hpg (ref_grow_none (h.more _) hrn hr (dataR_ok pg hg))).keep cxG (by have:=h.lt;omega) rfl rfl fun i x hx=>.inl hx
theorem ref_data_state (h:RefP S y q l b sd L last rs all) (hrn:rs.length≤1000000) {rd:Int} {p:Nat} {e:Int × Rm × Nat} (hp:at? rs rd=some p) (he:rs[p]? = some e) (hst:¬ e.2.1.st=1) {pg:Nat} {g:List UInt8} (hg:g.length=128) (hpg:pg<128):ACall cx 36 [.ptr y 0,.int .i64 rd,.int .i64 pg,.agg (bl g)] S (.int .i64 7) S :=
 (ref_data_by h rd hg hpg (ref_grow_state (h.more _) hrn hp he hst (dataR_ok pg hg))).keep cxG (by have:=h.lt;omega) rfl rfl fun i x hx=>.inl hx
theorem ref_data (h:RefP S y q l b sd L last rs all) (hl:L.length≤900000) (hLd:LD L) (hrn:rs.length≤1000000) {rd:Int} {p:Nat} {e:Int × Rm × Nat} (hp:at? rs rd=some p) (he:rs[p]? = some e) (hst:e.2.1.st=1) (hnl:e.2.1.nl=false) (hlg:e.2.1.log.length≤900000) {pg:Nat} {g:List UInt8} (hg:g.length=128) (hpg:pg<128) :
  ∃ S',ACall cx 36 [.ptr y 0,.int .i64 rd,.int .i64 pg,.agg (bl g)] S (.int .i64 0) S'∧Kept S S' y q l b rs∧RefP S' y q l b sd (askL [] L (dgQ 2 (parB e.2.1 pg g)) false) last (rs.set p (e.1,grw e.2.1 (askD [] L (dgQ 2 (parB e.2.1 pg g))) (dataR pg g),e.2.2)) all:=by
 have heo:=h.ok e (List.mem_of_getElem? he)
 have h2:=h.more [.cells (bl g) 44]
 obtain ⟨S',hG,hK,hP⟩:=ref_grow h2 hrn hp he hst hnl hlg (dataR_ok pg hg) (dgQ 2 (parB e.2.1 pg g)) rfl (fun R=>by
  rw [← raskS_app h2.orc]
  exact ref_meas2 (h2.more R) hl hLd heo.m (dataR_ok pg hg) rfl rfl hpg)
 exact ⟨S',ref_data_by h rd hg hpg hG,hK.of_more,hP⟩
end
end
end Go.Am
end
