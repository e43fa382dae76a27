/- The reference's realms at any state: AddRec. -/
import Derived.Test.YteemcehaekffeaaGreatO29
set_option linter.unusedVariables false
set_option linter.unusedSimpArgs false
section
namespace Go.Am
open Go Go.Proofs
set_option maxHeartbeats 8000000
set_option maxRecDepth 100000
section
attribute [local irreducible] aC aL thenQ blockQ scopeQ ALoop AWp
theorem itm_ctr (rd:Int) {r:Rm} (h:r.Ok):((itmC rd r).drop 70).take 1=[.int .u64 r.ctr]:=by
 unfold itmC rmC
 simp only [List.drop_succ_cons]
 rw [show 65=33+32 from rfl,o_drop h.m,List.drop_succ_cons,show 32=0+32 from rfl,o_drop h.k]
 rfl
theorem itm_recs (rd:Int) {r:Rm} (h:r.Ok):((itmC rd r).drop 103).take 1=[.int .i64 r.recs]:=by
 unfold itmC rmC
 simp only [List.drop_succ_cons]
 rw [show 98=66+32 from rfl,o_drop h.m,List.drop_succ_cons,show 65=33+32 from rfl,o_drop h.k,List.drop_succ_cons,show 32=0+32 from rfl,o_drop h.t]
 rfl
theorem itm_st_put (rd:Int) (r:Rm) (z:Int):putCells (itmC rd r) 2 [.int .i64 z]=itmC rd { r with st:=z }:=by
 unfold itmC rmC
 simp only [go_sem]
theorem itm_ctr_put (rd:Int) {r:Rm} (h:r.Ok) (z:Nat):putCells (itmC rd r) 70 [.int .u64 z]=itmC rd { r with ctr:=z }:=by
 unfold itmC rmC
 simp only [go_sem]
 rw [show 65=33+32 from rfl,o_put h.m _ _ _ (by simp [h.k,h.t])]
 simp only [go_sem]
 rw [show 32=0+32 from rfl,o_put h.k _ _ _ (by simp)]
 simp only [go_sem]
theorem itm_tree_put (rd:Int) {r:Rm} (h:r.Ok) {t:List UInt8} (ht:t.length=32):putCells (itmC rd r) 71 (bl t)=itmC rd { r with tree:=t }:=by
 unfold itmC rmC
 simp only [go_sem]
 rw [show 66=34+32 from rfl,o_put h.m _ _ _ (by simp [h.k,h.t,ht])]
 simp only [go_sem]
 rw [show 33=1+32 from rfl,o_put h.k _ _ _ (by simp [h.t,ht])]
 simp only [go_sem]
 rw [o_putP (by simp [h.t,ht])]
theorem itm_recs_put (rd:Int) {r:Rm} (h:r.Ok) (z:Int):putCells (itmC rd r) 103 [.int .i64 z]=itmC rd { r with recs:=z }:=by
 unfold itmC rmC
 simp only [go_sem]
 rw [show 98=66+32 from rfl,o_put h.m _ _ _ (by simp [h.k,h.t])]
 simp only [go_sem]
 rw [show 65=33+32 from rfl,o_put h.k _ _ _ (by simp [h.t])]
 simp only [go_sem]
 rw [show 32=0+32 from rfl,o_put h.t _ _ _ (by simp)]
 simp only [go_sem]
section
variable {S:St} {y q l b sd:Nat} {L:List It} {last:Nat} {rs:Rs} {all:AVal}
theorem rdC_recR (r:Rp):rdC (recR r) = .int .i64 3::(bl [0,0,0,0,0,0,0,0,0,0,0,0,0,0,0,0,0,0,0,0,0,0,0,0,0,0,0,0,0,0,0,0]++(.int .i64 0::(bl [0,0,0,0,0,0,0,0,0,0,0,0,0,0,0,0,0,0,0,0,0,0,0,0,0,0,0,0,0,0,0,0,0,0,0,0,0,0,0,0,0,0,0,0,0,0,0,0,0,0,0,0,0,0,0,0,0,0,0,0,0,0,0,0,0,0,0,0,0,0,0,0,0,0,0,0,0,0,0,0,0,0,0,0,0,0,0,0,0,0,0,0,0,0,0,0,0,0,0,0,0,0,0,0,0,0,0,0,0,0,0,0,0,0,0,0,0,0,0,0,0,0,0,0,0,0,0,0]++rpC r))):=rfl
theorem ref_addrec_none (h:RefP S y q l b sd L last rs all) (hrn:rs.length≤1000000) {rd:Int} (hr:at? rs rd=none) {r:Rp} (hq:r.Ok):ACall cx 38 [.ptr y 0,.int .i64 rd,.agg (rpC r)] S (.int .i64 6) S:=by
 have hAt:=fun R:St=>ref_at (h.more R) hrn rd
 rw [show atI rs rd = -1 by unfold atI;rw [hr]] at hAt
 have hG:=fun R:St=>ref_grow_none (h.more R) hrn hr (recR_ok hq)
 have hy:=h.lt
 have hone:=rp_one r
 have hrl:=length_rpC hq
 have hrt:(rpC r).take 10=rpC r:=List.take_of_length_le (by omega)
 rw [rdC_recR] at hG
 have z0:(bl [0,0,0,0,0,0,0,0,0,0,0,0,0,0,0,0,0,0,0,0,0,0,0,0,0,0,0,0,0,0,0,0,0,0,0,0,0,0,0,0,0,0,0,0,0,0,0,0,0,0,0,0,0,0,0,0,0,0,0,0,0,0,0,0,0,0,0,0,0,0,0,0,0,0,0,0,0,0,0,0,0,0,0,0,0,0,0,0,0,0,0,0,0,0,0,0,0,0,0,0,0,0,0,0,0,0,0,0,0,0,0,0,0,0,0,0,0,0,0,0,0,0,0,0,0,0,0,0]).length=128:=rfl
 have hw:ACall cx 38 [.ptr y 0,.int .i64 rd,.agg (rpC r)] S (.int .i64 6) (S++[.cells (rpC r) 47]):=by
  generalize rpC r=R at *
  have pz:∀ x n cs,n+cs.length≤(x:List AVal).length→putCells (bl [0,0,0,0,0,0,0,0,0,0,0,0,0,0,0,0,0,0,0,0,0,0,0,0,0,0,0,0,0,0,0,0,0,0,0,0,0,0,0,0,0,0,0,0,0,0,0,0,0,0,0,0,0,0,0,0,0,0,0,0,0,0,0,0,0,0,0,0,0,0,0,0,0,0,0,0,0,0,0,0,0,0,0,0,0,0,0,0,0,0,0,0,0,0,0,0,0,0,0,0,0,0,0,0,0,0,0,0,0,0,0,0,0,0,0,0,0,0,0,0,0,0,0,0,0,0,0,0]++x) (n+128) cs=bl [0,0,0,0,0,0,0,0,0,0,0,0,0,0,0,0,0,0,0,0,0,0,0,0,0,0,0,0,0,0,0,0,0,0,0,0,0,0,0,0,0,0,0,0,0,0,0,0,0,0,0,0,0,0,0,0,0,0,0,0,0,0,0,0,0,0,0,0,0,0,0,0,0,0,0,0,0,0,0,0,0,0,0,0,0,0,0,0,0,0,0,0,0,0,0,0,0,0,0,0,0,0,0,0,0,0,0,0,0,0,0,0,0,0,0,0,0,0,0,0,0,0,0,0,0,0,0,0]++putCells x n cs:=fun x n cs hh=>by
   rw [putCells_eq _ _ _ (by rw [List.length_append,z0];omega),putCells_eq _ _ _ hh,List.take_append,List.take_of_length_le (by rw [z0];omega),z0,List.drop_append,List.drop_eq_nil_of_le (by rw [z0];omega),z0]
   rw [show n+128-128=n by omega,show n+128+cs.length-128=n+cs.length by omega]
   simp
  generalize [0,0,0,0,0,0,0,0,0,0,0,0,0,0,0,0,0,0,0,0,0,0,0,0,0,0,0,0,0,0,0,0,0,0,0,0,0,0,0,0,0,0,0,0,0,0,0,0,0,0,0,0,0,0,0,0,0,0,0,0,0,0,0,0,0,0,0,0,0,0,0,0,0,0,0,0,0,0,0,0,0,0,0,0,0,0,0,0,0,0,0,0,0,0,0,0,0,0,0,0,0,0,0,0,0,0,0,0,0,0,0,0,0,0,0,0,0,0,0,0,0,0,0,0,0,0,0,0]=ZZ at *
  refine oA lq38 ?_
  have F:=(pk5 @hrl @hrt @put_z @pz @o_put0)
  repeat' (first|refine st2 F hAt hG ?_|(refine cp F ?_ ?_<;>intro h)|refine zT F ?_ ?_)
  all_goals try exact cl F
  all_goals try exact hone
  all_goals try exact fun n e h=>h.elim
  all_goals try exact ⟨fun n e h=>h.elim,hone⟩
 exact hw.keep cxG (by omega) rfl rfl fun i x hx=>.inl hx
theorem ref_addrec_state (h:RefP S y q l b sd L last rs all) (hrn:rs.length≤1000000) {rd:Int} {p:Nat} {e:Int × Rm × Nat} (hp:at? rs rd=some p) (he:rs[p]? = some e) (hst:¬ e.2.1.st=1) {r:Rp} (hq:r.Ok):ACall cx 38 [.ptr y 0,.int .i64 rd,.agg (rpC r)] S (.int .i64 7) S:=by
 have hAt:=fun R:St=>ref_at (h.more R) hrn rd
 rw [show atI rs rd=(p:Nat) by unfold atI;rw [hp]] at hAt
 have hy:=h.lt
 have hB:=h.bx
 have hone:=rp_one r
 have hrl:=length_rpC hq
 have hrt:(rpC r).take 10=rpC r:=List.take_of_length_le (by omega)
 have hpl:=at_lt hp
 have hn:rs≠[]:=by rintro rfl;simp at hpl
 obtain ⟨hall,hrow⟩:=h.row hn
 have hbl:=(List.getElem?_eq_some_iff.1 hrow).1
 have hrcl:=length_rowC h.ok
 have g1:((rowC rs).drop (p*104+2)).take 1=[.int .i64 e.2.1.st]:=rowC_get h.ok he (by decide)
 have z0:(bl [0,0,0,0,0,0,0,0,0,0,0,0,0,0,0,0,0,0,0,0,0,0,0,0,0,0,0,0,0,0,0,0,0,0,0,0,0,0,0,0,0,0,0,0,0,0,0,0,0,0,0,0,0,0,0,0,0,0,0,0,0,0,0,0,0,0,0,0,0,0,0,0,0,0,0,0,0,0,0,0,0,0,0,0,0,0,0,0,0,0,0,0,0,0,0,0,0,0,0,0,0,0,0,0,0,0,0,0,0,0,0,0,0,0,0,0,0,0,0,0,0,0,0,0,0,0,0,0]).length=128:=rfl
 have hG:=fun R:St=>ref_grow_state (h.more R) hrn hp he hst (recR_ok hq)
 rw [rdC_recR] at hG
 subst hall
 have hw:ACall cx 38 [.ptr y 0,.int .i64 rd,.agg (rpC r)] S (.int .i64 7) (S++[.cells (rpC r) 47]):=by
  generalize rpC r=R at *
  generalize rowC rs=X0 at *
  have pz:∀ x n cs,n+cs.length≤(x:List AVal).length→putCells (bl [0,0,0,0,0,0,0,0,0,0,0,0,0,0,0,0,0,0,0,0,0,0,0,0,0,0,0,0,0,0,0,0,0,0,0,0,0,0,0,0,0,0,0,0,0,0,0,0,0,0,0,0,0,0,0,0,0,0,0,0,0,0,0,0,0,0,0,0,0,0,0,0,0,0,0,0,0,0,0,0,0,0,0,0,0,0,0,0,0,0,0,0,0,0,0,0,0,0,0,0,0,0,0,0,0,0,0,0,0,0,0,0,0,0,0,0,0,0,0,0,0,0,0,0,0,0,0,0]++x) (n+128) cs=bl [0,0,0,0,0,0,0,0,0,0,0,0,0,0,0,0,0,0,0,0,0,0,0,0,0,0,0,0,0,0,0,0,0,0,0,0,0,0,0,0,0,0,0,0,0,0,0,0,0,0,0,0,0,0,0,0,0,0,0,0,0,0,0,0,0,0,0,0,0,0,0,0,0,0,0,0,0,0,0,0,0,0,0,0,0,0,0,0,0,0,0,0,0,0,0,0,0,0,0,0,0,0,0,0,0,0,0,0,0,0,0,0,0,0,0,0,0,0,0,0,0,0,0,0,0,0,0,0]++putCells x n cs:=fun x n cs hh=>by
   rw [putCells_eq _ _ _ (by rw [List.length_append,z0];omega),putCells_eq _ _ _ hh,List.take_append,List.take_of_length_le (by rw [z0];omega),z0,List.drop_append,List.drop_eq_nil_of_le (by rw [z0];omega),z0]
   rw [show n+128-128=n by omega,show n+128+cs.length-128=n+cs.length by omega]
   simp
  generalize [0,0,0,0,0,0,0,0,0,0,0,0,0,0,0,0,0,0,0,0,0,0,0,0,0,0,0,0,0,0,0,0,0,0,0,0,0,0,0,0,0,0,0,0,0,0,0,0,0,0,0,0,0,0,0,0,0,0,0,0,0,0,0,0,0,0,0,0,0,0,0,0,0,0,0,0,0,0,0,0,0,0,0,0,0,0,0,0,0,0,0,0,0,0,0,0,0,0,0,0,0,0,0,0,0,0,0,0,0,0,0,0,0,0,0,0,0,0,0,0,0,0,0,0,0,0,0,0]=ZZ at *
  refine oA lq38 ?_
  have F:=(pk12 @hB @hrow @hrcl @hpl @g1 @hst @hrl @hrt @put_z @pz @o_put0 @Nat.add_assoc)
  repeat' (first|refine st2 F hAt hG ?_|(refine cp F ?_ ?_<;>intro h)|refine zT F ?_ ?_|refine mLT F ?_ ?_|refine mUT F ?_ ?_|refine mDT F ?_ ?_|(refine gP F ?_ ?_<;>(intro h;first|(exfalso;omega)|(simp only [h,decide_true,decide_false,not_true,not_false_iff])))|(refine gN F ?_ ?_<;>(intro h;first|(exfalso;omega)|(simp only [h,decide_true,decide_false,not_true,not_false_iff]))))
  all_goals try exact cl F
  all_goals try exact hone
  all_goals try exact fun n e h=>h.elim
  all_goals try exact ⟨fun n e h=>h.elim,hone⟩
  all_goals try omega
 exact hw.keep cxG (by omega) rfl rfl fun i x hx=>.inl hx
theorem ref_addrec_arg (h:RefP S y q l b sd L last rs all) (hrn:rs.length≤1000000) {rd:Int} {p:Nat} {e:Int × Rm × Nat} (hp:at? rs rd=some p) (he:rs[p]? = some e) (hst:e.2.1.st=1) {r:Rp} (hq:r.Ok) (hm:¬ r.May):ACall cx 38 [.ptr y 0,.int .i64 rd,.agg (rpC r)] S (.int .i64 2) S:=by
 have hAt:=fun R:St=>ref_at (h.more R) hrn rd
 rw [show atI rs rd=(p:Nat) by unfold atI;rw [hp]] at hAt
 have hy:=h.lt
 have hB:=h.bx
 have hone:=rp_one r
 have hrl:=length_rpC hq
 have hrt:(rpC r).take 10=rpC r:=List.take_of_length_le (by omega)
 have hpl:=at_lt hp
 have hn:rs≠[]:=by rintro rfl;simp at hpl
 obtain ⟨hall,hrow⟩:=h.row hn
 have hbl:=(List.getElem?_eq_some_iff.1 hrow).1
 have hrcl:=length_rowC h.ok
 have g1:((rowC rs).drop (p*104+2)).take 1=[.int .i64 e.2.1.st]:=rowC_get h.ok he (by decide)
 have z0:(bl [0,0,0,0,0,0,0,0,0,0,0,0,0,0,0,0,0,0,0,0,0,0,0,0,0,0,0,0,0,0,0,0,0,0,0,0,0,0,0,0,0,0,0,0,0,0,0,0,0,0,0,0,0,0,0,0,0,0,0,0,0,0,0,0,0,0,0,0,0,0,0,0,0,0,0,0,0,0,0,0,0,0,0,0,0,0,0,0,0,0,0,0,0,0,0,0,0,0,0,0,0,0,0,0,0,0,0,0,0,0,0,0,0,0,0,0,0,0,0,0,0,0,0,0,0,0,0,0]).length=128:=rfl
 have hM:=ref_mayRec r hq
 rw [decide_eq_false hm] at hM
 subst hall
 have hw:ACall cx 38 [.ptr y 0,.int .i64 rd,.agg (rpC r)] S (.int .i64 2) (S++[.cells (rpC r) 47]):=by
  generalize rowC rs=X0 at *
  refine oA lq38 ?_
  exact wk2 (pk9 @hB @hrow @hrcl @hpl @g1 @hst @hrl @hrt @Nat.add_assoc) hAt hM
 exact hw.keep cxG (by omega) rfl rfl fun i x hx=>.inl hx
theorem ref_addrec (h:RefP S y q l b sd L last rs all) (hl:L.length≤900000) (hLd:LD L) (hrn:rs.length≤1000000) {rd:Int} {p:Nat} {e:Int × Rm × Nat} (hp:at? rs rd=some p) (he:rs[p]? = some e) (hst:e.2.1.st=1) (hnl:e.2.1.nl=false) (hlg:e.2.1.log.length≤900000) (hrc:0≤e.2.1.recs∧e.2.1.recs≤900000) {r:Rp} (hq:r.Ok) (hm:r.May) :
  ∃ S',ACall cx 38 [.ptr y 0,.int .i64 rd,.agg (rpC r)] S (.int .i64 0) S'∧Kept S S' y q l b rs∧RefP S' y q l b sd (askL [] L (dgQ 3 (recP e.2.1 r)) false) last (rs.set p (e.1,grwR e.2.1 (askD [] L (dgQ 3 (recP e.2.1 r))) (recR r),e.2.2)) all:=by
 have hAt:=fun R:St=>ref_at (h.more R) hrn rd
 rw [show atI rs rd=(p:Nat) by unfold atI;rw [hp]] at hAt
 have hy:=h.lt
 have hB:=h.bx
 have hone:=rp_one r
 have hrl:=length_rpC hq
 have hrt:(rpC r).take 10=rpC r:=List.take_of_length_le (by omega)
 have hpl:=at_lt hp
 have hn:rs≠[]:=by rintro rfl;simp at hpl
 obtain ⟨hall,hrow⟩:=h.row hn
 have hbl:=(List.getElem?_eq_some_iff.1 hrow).1
 have hrcl:=length_rowC h.ok
 have g1:((rowC rs).drop (p*104+2)).take 1=[.int .i64 e.2.1.st]:=rowC_get h.ok he (by decide)
 have z0:(bl [0,0,0,0,0,0,0,0,0,0,0,0,0,0,0,0,0,0,0,0,0,0,0,0,0,0,0,0,0,0,0,0,0,0,0,0,0,0,0,0,0,0,0,0,0,0,0,0,0,0,0,0,0,0,0,0,0,0,0,0,0,0,0,0,0,0,0,0,0,0,0,0,0,0,0,0,0,0,0,0,0,0,0,0,0,0,0,0,0,0,0,0,0,0,0,0,0,0,0,0,0,0,0,0,0,0,0,0,0,0,0,0,0,0,0,0,0,0,0,0,0,0,0,0,0,0,0,0]).length=128:=rfl
 have hM:=ref_mayRec r hq
 rw [decide_eq_true hm] at hM
 have heo:=h.ok e (List.mem_of_getElem? he)
 have h2:=h.more [.cells (rpC r) 47]
 obtain ⟨S1,hG,hK,hP⟩:=ref_grow h2 hrn hp he hst hnl hlg (recR_ok hq) (dgQ 3 (recP e.2.1 r)) rfl (fun R=>by
  rw [← raskS_app h2.orc]
  exact ref_meas3 (h2.more R) hl hLd heo.m (recR_ok hq) rfl)
 rw [rdC_recR] at hG
 generalize askD [] L (dgQ 3 (recP e.2.1 r))=d at *
 have hd0:(grw e.2.1 d (recR r)).Ok:=hP.ok (e.1,grw e.2.1 d (recR r),e.2.2) (List.mem_of_getElem? (List.getElem?_set_self hpl))
 have he1:(rs.set p (e.1,grw e.2.1 d (recR r),e.2.2))[p]? = some (e.1,grw e.2.1 d (recR r),e.2.2):=List.getElem?_set_self hpl
 have hAt2:=ref_at hP (by rw [List.length_set];exact hrn) rd
 rw [show atI (rs.set p (e.1,grw e.2.1 d (recR r),e.2.2)) rd=(p:Nat) by unfold atI;rw [at_set he,hp]] at hAt2
 have hn1:rs.set p (e.1,grw e.2.1 d (recR r),e.2.2)≠[]:=by
  intro k
  have:=congrArg List.length k
  rw [List.length_set] at this
  exact hn (List.length_eq_zero_iff.1 this)
 have hB1:=hP.bx
 have hy1:=hP.lt
 have hrow1:=(hP.row hn1).2
 have hb1:=(List.getElem?_eq_some_iff.1 hrow1).1
 have hrcl1:=length_rowC hP.ok
 rw [List.length_set] at hrcl1
 have g4:((rowC (rs.set p (e.1,grw e.2.1 d (recR r),e.2.2))).drop (p*104+103)).take 1=[.int .i64 e.2.1.recs]:=(rowC_get hP.ok he1 (by decide)).trans (itm_recs e.1 hd0)
 have p4:=rowC_put hP.ok he1 (off:=103) (cs:=[.int .i64 (e.2.1.recs+1)]) (by simp) (itm_recs_put e.1 hd0 (e.2.1.recs+1))
 rw [List.set_set] at p4
 have w1:IntKind.i64.wrap (e.2.1.recs+1)=e.2.1.recs+1:=by rw [IntKind.wrap_i64];omega
 obtain ⟨bn1,bn2,bn3⟩:=h.bne hn
 have hgr:({ grw e.2.1 d (recR r) with recs:=e.2.1.recs+1 }:Rm)=grwR e.2.1 d (recR r):=rfl
 have hgo:(grwR e.2.1 d (recR r)).Ok:=⟨hd0.m,hd0.k,hd0.t,hd0.l,hd0.n⟩
 simp only [hgr] at p4
 refine ⟨S1.set b (.row (rowC (rs.set p (e.1,grwR e.2.1 d (recR r),e.2.2))) 99),?_,⟨by rw [List.length_set];exact hK.of_more.len,fun i hi i1 i2 i3 i4=>by rw [List.getElem?_set_ne (Ne.symm (i4 hn))];exact hK.of_more.ne i hi i1 i2 i3 i4⟩,?_⟩
 ·have hx1:(rs.set p (e.1,grw e.2.1 d (recR r),e.2.2)).length=rs.length:=List.length_set
  subst hall
  clear hd0 he1 hn1 hP hK h2 hgo hgr
  generalize rowC (rs.set p (e.1,grwR e.2.1 d (recR r),e.2.2))=X2 at *
  generalize rowC (rs.set p (e.1,grw e.2.1 d (recR r),e.2.2))=X1 at *
  generalize rowC rs=X0 at *
  have pz:∀ x n cs,n+cs.length≤(x:List AVal).length→putCells (bl [0,0,0,0,0,0,0,0,0,0,0,0,0,0,0,0,0,0,0,0,0,0,0,0,0,0,0,0,0,0,0,0,0,0,0,0,0,0,0,0,0,0,0,0,0,0,0,0,0,0,0,0,0,0,0,0,0,0,0,0,0,0,0,0,0,0,0,0,0,0,0,0,0,0,0,0,0,0,0,0,0,0,0,0,0,0,0,0,0,0,0,0,0,0,0,0,0,0,0,0,0,0,0,0,0,0,0,0,0,0,0,0,0,0,0,0,0,0,0,0,0,0,0,0,0,0,0,0]++x) (n+128) cs=bl [0,0,0,0,0,0,0,0,0,0,0,0,0,0,0,0,0,0,0,0,0,0,0,0,0,0,0,0,0,0,0,0,0,0,0,0,0,0,0,0,0,0,0,0,0,0,0,0,0,0,0,0,0,0,0,0,0,0,0,0,0,0,0,0,0,0,0,0,0,0,0,0,0,0,0,0,0,0,0,0,0,0,0,0,0,0,0,0,0,0,0,0,0,0,0,0,0,0,0,0,0,0,0,0,0,0,0,0,0,0,0,0,0,0,0,0,0,0,0,0,0,0,0,0,0,0,0,0]++putCells x n cs:=fun x n cs hh=>by
   rw [putCells_eq _ _ _ (by rw [List.length_append,z0];omega),putCells_eq _ _ _ hh,List.take_append,List.take_of_length_le (by rw [z0];omega),z0,List.drop_append,List.drop_eq_nil_of_le (by rw [z0];omega),z0]
   rw [show n+128-128=n by omega,show n+128+cs.length-128=n+cs.length by omega]
   simp
  generalize [0,0,0,0,0,0,0,0,0,0,0,0,0,0,0,0,0,0,0,0,0,0,0,0,0,0,0,0,0,0,0,0,0,0,0,0,0,0,0,0,0,0,0,0,0,0,0,0,0,0,0,0,0,0,0,0,0,0,0,0,0,0,0,0,0,0,0,0,0,0,0,0,0,0,0,0,0,0,0,0,0,0,0,0,0,0,0,0,0,0,0,0,0,0,0,0,0,0,0,0,0,0,0,0,0,0,0,0,0,0,0,0,0,0,0,0,0,0,0,0,0,0,0,0,0,0,0,0]=ZZ at *
  refine oA lq38 ?_
  have F:=(pk12 @hB @hrow @hrcl @hpl @g1 @hst @hrl @hrt @put_z @pz @o_put0 @Nat.add_assoc)
  repeat' (first|refine st3 F hAt hM hG ?_|(refine cp F ?_ ?_<;>intro h)|refine zT F ?_ ?_|refine mLT F ?_ ?_|refine mUT F ?_ ?_|refine mDT F ?_ ?_|(refine gP F ?_ ?_<;>(intro h;first|(exfalso;omega)|(simp only [h,decide_true,decide_false,not_true,not_false_iff])))|(refine gN F ?_ ?_<;>(intro h;first|(exfalso;omega)|(simp only [h,decide_true,decide_false,not_true,not_false_iff]))))
  refine aC_regB (U:=[(some 41,some 44)]) rfl [(some 41,y),(some 48,b)] ?_
  have F:=(pk9 @hB1 @hrow1 @hrcl1 @hx1 @g4 @p4 @hpl @w1 @Nat.add_assoc)
  repeat' refine sb1 F hAt2 ?_
  have F:=(pk12 @hB @hrow @hrcl @g1 @hrl @hrt @hB1 @hrow1 @hrcl1 @hx1 @g4 (pk2 @p4 @w1))
  repeat' (first|refine st F ?_|(refine cp F ?_ ?_<;>intro h))
  all_goals try exact cl F
  all_goals try exact hone
  all_goals try exact fun n e h=>h.elim
  all_goals try exact ⟨fun n e h=>h.elim,hone⟩
  all_goals try omega
 ·have:=hP.setRow (rs':=rs.set p (e.1,grwR e.2.1 d (recR r),e.2.2)) (T:=S1.set b (.row (rowC (rs.set p (e.1,grwR e.2.1 d (recR r),e.2.2))) 99)) (by simp) (rs_set_ok h.ok hgo) (List.getElem?_set_ne bn2) (List.getElem?_set_ne bn3) (List.getElem?_set_ne bn1) (fun _=>List.getElem?_set_self hb1)
  exact this
end
end
end Go.Am
end
section
namespace Go.Am
open Go Go.Proofs
set_option maxHeartbeats 8000000
set_option maxRecDepth 100000
section
attribute [local irreducible] aC aL thenQ blockQ scopeQ ALoop AWp
section
variable {S:St} {y q l b sd:Nat} {L:List It} {last:Nat} {rs:Rs} {all:AVal}
theorem RefP.put (h:RefP S y q l b sd L last rs all) {p:Nat} {e:Int × Rm × Nat} (he:rs[p]? = some e) {r:Rm} (hr:r.Ok):RefP (S.set b (.row (rowC (rs.set p (e.1,r,e.2.2))) 99)) y q l b sd L last (rs.set p (e.1,r,e.2.2)) all:=by
 have hpl:=(List.getElem?_eq_some_iff.1 he).1
 have hn:rs≠[]:=by rintro rfl;simp at hpl
 obtain ⟨bn1,bn2,bn3⟩:=h.bne hn
 have hbl:=(List.getElem?_eq_some_iff.1 (h.row hn).2).1
 exact h.setRow (by simp) (rs_set_ok h.ok hr) (List.getElem?_set_ne bn2) (List.getElem?_set_ne bn3) (List.getElem?_set_ne bn1) fun _=>List.getElem?_set_self hbl
theorem Kept.put {rs:Rs} (hn:rs≠[]) (S:St) (y q l b:Nat) (x:ABox):Kept S (S.set b x) y q l b rs:=⟨by rw [List.length_set];exact Nat.le_refl _,fun i _ _ _ _ i4=>List.getElem?_set_ne (Ne.symm (i4 hn))⟩
theorem ref_kill_none (h:RefP S y q l b sd L last rs all) (hrn:rs.length≤1000000) {rd:Int} (hr:at? rs rd=none):ACall cx 43 [.ptr y 0,.int .i64 rd] S (.int .i64 6) S:=by
 have hAt:=fun R:St=>ref_at (h.more R) hrn rd
 rw [show atI rs rd = -1 by unfold atI;rw [hr]] at hAt
 have hy:=h.lt
 have hAt0:=hAt []
 rw [List.append_nil] at hAt0
 refine oA lq43 ?_
 exact wk1 True.intro hAt0
theorem ref_kill (h:RefP S y q l b sd L last rs all) (hrn:rs.length≤1000000) {rd:Int} {p:Nat} {e:Int × Rm × Nat} (hp:at? rs rd=some p) (he:rs[p]? = some e):ACall cx 43 [.ptr y 0,.int .i64 rd] S (.int .i64 0) (S.set b (.row (rowC (rs.set p (e.1,{ e.2.1 with st:=3 },e.2.2))) 99)):=by
 have hAt:=fun R:St=>ref_at (h.more R) hrn rd
 rw [show atI rs rd=(p:Nat) by unfold atI;rw [hp]] at hAt
 have hy:=h.lt
 have hB:=h.bx
 have hpl:=at_lt hp
 have hn:rs≠[]:=by rintro rfl;simp at hpl
 obtain ⟨hall,hrow⟩:=h.row hn
 have hbl:=(List.getElem?_eq_some_iff.1 hrow).1
 have hrcl:=length_rowC h.ok
 have heo:=h.ok e (List.mem_of_getElem? he)
 have p1:=rowC_put h.ok he (off:=2) (cs:=[.int .i64 3]) (by simp) (itm_st_put e.1 e.2.1 3)
 have hAt0:=hAt []
 rw [List.append_nil] at hAt0
 subst hall
 generalize rowC (rs.set p (e.1,{ e.2.1 with st:=3 },e.2.2))=X1 at *
 generalize rowC rs=X0 at *
 refine oA lq43 ?_
 exact wk1 (pk6 @hB @hrow @hrcl @hpl @p1 @Nat.add_assoc) hAt0
theorem ref_activate_none (h:RefP S y q l b sd L last rs all) (hrn:rs.length≤1000000) {rd:Int} (hr:at? rs rd=none):ACall cx 41 [.ptr y 0,.int .i64 rd] S (.int .i64 6) S:=by
 have hAt:=fun R:St=>ref_at (h.more R) hrn rd
 rw [show atI rs rd = -1 by unfold atI;rw [hr]] at hAt
 have hy:=h.lt
 have hAt0:=hAt []
 rw [List.append_nil] at hAt0
 refine oA lq41 ?_
 exact wk1 True.intro hAt0
theorem ref_activate (h:RefP S y q l b sd L last rs all) (hrn:rs.length≤1000000) {rd:Int} {p:Nat} {e:Int × Rm × Nat} (hp:at? rs rd=some p) (he:rs[p]? = some e) (hst:e.2.1.st=1):ACall cx 41 [.ptr y 0,.int .i64 rd] S (.int .i64 0) (S.set b (.row (rowC (rs.set p (e.1,{ e.2.1 with st:=2 },e.2.2))) 99)):=by
 have hAt:=fun R:St=>ref_at (h.more R) hrn rd
 rw [show atI rs rd=(p:Nat) by unfold atI;rw [hp]] at hAt
 have hy:=h.lt
 have hB:=h.bx
 have hpl:=at_lt hp
 have hn:rs≠[]:=by rintro rfl;simp at hpl
 obtain ⟨hall,hrow⟩:=h.row hn
 have hbl:=(List.getElem?_eq_some_iff.1 hrow).1
 have hrcl:=length_rowC h.ok
 have heo:=h.ok e (List.mem_of_getElem? he)
 have g1:((rowC rs).drop (p*104+2)).take 1=[.int .i64 e.2.1.st]:=rowC_get h.ok he (by decide)
 have p1:=rowC_put h.ok he (off:=2) (cs:=[.int .i64 2]) (by simp) (itm_st_put e.1 e.2.1 2)
 have hAt0:=hAt []
 rw [List.append_nil] at hAt0
 subst hall
 generalize rowC (rs.set p (e.1,{ e.2.1 with st:=2 },e.2.2))=X1 at *
 generalize rowC rs=X0 at *
 refine oA lq41 ?_
 exact wk1 (pk8 @hB @hrow @hrcl @hpl @p1 @g1 @hst @Nat.add_assoc) hAt0
theorem ref_activate_no (h:RefP S y q l b sd L last rs all) (hrn:rs.length≤1000000) {rd:Int} {p:Nat} {e:Int × Rm × Nat} (hp:at? rs rd=some p) (he:rs[p]? = some e) (hst:¬ e.2.1.st=1):ACall cx 41 [.ptr y 0,.int .i64 rd] S (.int .i64 7) S:=by
 have hAt:=fun R:St=>ref_at (h.more R) hrn rd
 rw [show atI rs rd=(p:Nat) by unfold atI;rw [hp]] at hAt
 have hy:=h.lt
 have hB:=h.bx
 have hpl:=at_lt hp
 have hn:rs≠[]:=by rintro rfl;simp at hpl
 obtain ⟨hall,hrow⟩:=h.row hn
 have hbl:=(List.getElem?_eq_some_iff.1 hrow).1
 have hrcl:=length_rowC h.ok
 have heo:=h.ok e (List.mem_of_getElem? he)
 have g1:((rowC rs).drop (p*104+2)).take 1=[.int .i64 e.2.1.st]:=rowC_get h.ok he (by decide)
 have hAt0:=hAt []
 rw [List.append_nil] at hAt0
 subst hall
 generalize rowC rs=X0 at *
 refine oA lq41 ?_
 exact wk1 (pk7 @hB @hrow @hrcl @hpl @g1 @hst @Nat.add_assoc) hAt0
theorem ref_droprec_none (h:RefP S y q l b sd L last rs all) (hrn:rs.length≤1000000) {rd:Int} (hr:at? rs rd=none):ACall cx 40 [.ptr y 0,.int .i64 rd] S (.int .i64 6) S:=by
 have hAt:=fun R:St=>ref_at (h.more R) hrn rd
 rw [show atI rs rd = -1 by unfold atI;rw [hr]] at hAt
 have hy:=h.lt
 have hAt0:=hAt []
 rw [List.append_nil] at hAt0
 refine oA lq40 ?_
 exact wk1 True.intro hAt0
theorem ref_droprec (h:RefP S y q l b sd L last rs all) (hrn:rs.length≤1000000) {rd:Int} {p:Nat} {e:Int × Rm × Nat} (hp:at? rs rd=some p) (he:rs[p]? = some e) (hrc:0<e.2.1.recs) (hrc2:e.2.1.recs≤900000):ACall cx 40 [.ptr y 0,.int .i64 rd] S (.int .i64 0) (S.set b (.row (rowC (rs.set p (e.1,{ e.2.1 with recs:=e.2.1.recs-1 },e.2.2))) 99)):=by
 have hAt:=fun R:St=>ref_at (h.more R) hrn rd
 rw [show atI rs rd=(p:Nat) by unfold atI;rw [hp]] at hAt
 have hy:=h.lt
 have hB:=h.bx
 have hpl:=at_lt hp
 have hn:rs≠[]:=by rintro rfl;simp at hpl
 obtain ⟨hall,hrow⟩:=h.row hn
 have hbl:=(List.getElem?_eq_some_iff.1 hrow).1
 have hrcl:=length_rowC h.ok
 have heo:=h.ok e (List.mem_of_getElem? he)
 have g1:((rowC rs).drop (p*104+103)).take 1=[.int .i64 e.2.1.recs]:=(rowC_get h.ok he (by decide)).trans (itm_recs e.1 heo)
 have p1:=rowC_put h.ok he (off:=103) (cs:=[.int .i64 (e.2.1.recs-1)]) (by simp) (itm_recs_put e.1 heo (e.2.1.recs-1))
 have w1:IntKind.i64.wrap (e.2.1.recs-1)=e.2.1.recs-1:=by rw [IntKind.wrap_i64];omega
 have hz:¬ e.2.1.recs=0:=by omega
 have hAt0:=hAt []
 rw [List.append_nil] at hAt0
 subst hall
 generalize rowC (rs.set p (e.1,{ e.2.1 with recs:=e.2.1.recs-1 },e.2.2))=X1 at *
 generalize rowC rs=X0 at *
 refine oA lq40 ?_
 exact wk1 (pk9 @hB @hrow @hrcl @hpl @p1 @g1 @w1 @hz @Nat.add_assoc) hAt0
theorem ref_droprec_no (h:RefP S y q l b sd L last rs all) (hrn:rs.length≤1000000) {rd:Int} {p:Nat} {e:Int × Rm × Nat} (hp:at? rs rd=some p) (he:rs[p]? = some e) (hrc:e.2.1.recs=0):ACall cx 40 [.ptr y 0,.int .i64 rd] S (.int .i64 2) S:=by
 have hAt:=fun R:St=>ref_at (h.more R) hrn rd
 rw [show atI rs rd=(p:Nat) by unfold atI;rw [hp]] at hAt
 have hy:=h.lt
 have hB:=h.bx
 have hpl:=at_lt hp
 have hn:rs≠[]:=by rintro rfl;simp at hpl
 obtain ⟨hall,hrow⟩:=h.row hn
 have hbl:=(List.getElem?_eq_some_iff.1 hrow).1
 have hrcl:=length_rowC h.ok
 have heo:=h.ok e (List.mem_of_getElem? he)
 have g1:((rowC rs).drop (p*104+103)).take 1=[.int .i64 e.2.1.recs]:=(rowC_get h.ok he (by decide)).trans (itm_recs e.1 heo)
 rw [hrc] at g1
 have hAt0:=hAt []
 rw [List.append_nil] at hAt0
 subst hall
 generalize rowC rs=X0 at *
 refine oA lq40 ?_
 exact wk1 (pk6 @hB @hrow @hrcl @hpl @g1 @Nat.add_assoc) hAt0
theorem ref_next_none (h:RefP S y q l b sd L last rs all) (hrn:rs.length≤1000000) {rd:Int} (hr:at? rs rd=none):ACall cx 14 [.ptr y 0,.int .i64 rd] S (.tup [.int .u64 0,.int .i64 6]) S:=by
 have hAt:=fun R:St=>ref_at (h.more R) hrn rd
 rw [show atI rs rd = -1 by unfold atI;rw [hr]] at hAt
 have hy:=h.lt
 have hAt0:=hAt []
 rw [List.append_nil] at hAt0
 refine oA lq14 ?_
 exact wk1 True.intro hAt0
theorem ref_next (h:RefP S y q l b sd L last rs all) (hrn:rs.length≤1000000) {rd:Int} {p:Nat} {e:Int × Rm × Nat} (hp:at? rs rd=some p) (he:rs[p]? = some e) (hc:e.2.1.ctr<4294967296):ACall cx 14 [.ptr y 0,.int .i64 rd] S (.tup [.int .u64 (e.2.1.ctr+1:Nat),.int .i64 0]) (S.set b (.row (rowC (rs.set p (e.1,{ e.2.1 with ctr:=e.2.1.ctr+1 },e.2.2))) 99)):=by
 have hAt:=fun R:St=>ref_at (h.more R) hrn rd
 rw [show atI rs rd=(p:Nat) by unfold atI;rw [hp]] at hAt
 have hy:=h.lt
 have hB:=h.bx
 have hpl:=at_lt hp
 have hn:rs≠[]:=by rintro rfl;simp at hpl
 obtain ⟨hall,hrow⟩:=h.row hn
 have hbl:=(List.getElem?_eq_some_iff.1 hrow).1
 have hrcl:=length_rowC h.ok
 have heo:=h.ok e (List.mem_of_getElem? he)
 have g1:((rowC rs).drop (p*104+70)).take 1=[.int .u64 e.2.1.ctr]:=(rowC_get h.ok he (by decide)).trans (itm_ctr e.1 heo)
 obtain ⟨bn1,bn2,bn3⟩:=h.bne hn
 have p1:=rowC_put h.ok he (off:=70) (cs:=[.int .u64 (e.2.1.ctr+1:Nat)]) (by simp) (itm_ctr_put e.1 heo (e.2.1.ctr+1))
 have hcok:({ e.2.1 with ctr:=e.2.1.ctr+1 }:Rm).Ok:=⟨heo.m,heo.k,heo.t,heo.l,heo.n⟩
 have hok1:=rs_set_ok (p:=p) (e:=(e.1,{ e.2.1 with ctr:=e.2.1.ctr+1 },e.2.2)) h.ok hcok
 have he1:(rs.set p (e.1,{ e.2.1 with ctr:=e.2.1.ctr+1 },e.2.2))[p]? = some (e.1,{ e.2.1 with ctr:=e.2.1.ctr+1 },e.2.2):=List.getElem?_set_self hpl
 have g2:((rowC (rs.set p (e.1,{ e.2.1 with ctr:=e.2.1.ctr+1 },e.2.2))).drop (p*104+70)).take 1=[.int .u64 (e.2.1.ctr+1:Nat)]:=(rowC_get hok1 he1 (by decide)).trans (itm_ctr e.1 hcok)
 have hr1:=length_rowC hok1
 rw [List.length_set] at hr1
 have w1:(((e.2.1.ctr:Nat):Int)+1)%18446744073709551616=((e.2.1.ctr+1:Nat):Int):=by omega
 have w2:((e.2.1.ctr:Nat):Int)+1=((e.2.1.ctr+1:Nat):Int):=by omega
 have hz:¬ ((e.2.1.ctr:Nat):Int)=4294967296:=by omega
 clear hok1 he1
 have hAt0:=hAt []
 rw [List.append_nil] at hAt0
 subst hall
 generalize rowC (rs.set p (e.1,{ e.2.1 with ctr:=e.2.1.ctr+1 },e.2.2))=X1 at *
 generalize rowC rs=X0 at *
 refine oA lq14 ?_
 exact wk1 (pk12 @hB @hrow @hrcl @hpl @p1 @g1 @g2 @hr1 @w1 @w2 @hz @Nat.add_assoc) hAt0
theorem ref_settree_none (h:RefP S y q l b sd L last rs all) (hrn:rs.length≤1000000) {rd:Int} (hr:at? rs rd=none) {t:List UInt8} (ht:t.length=32):ACall cx 45 [.ptr y 0,.int .i64 rd,.agg (bl t)] S (.int .i64 6) S:=by
 have hAt:=fun R:St=>ref_at (h.more R) hrn rd
 rw [show atI rs rd = -1 by unfold atI;rw [hr]] at hAt
 have hy:=h.lt
 have hgo:∀ c∈bl t,c.one=true:=fun c hc=>bl_one _ _ hc
 have htl:(bl t).length=32:=by rw [length_bl];exact ht
 have htt:(bl t).take 32=bl t:=List.take_of_length_le (by omega)
 have tt:t.take 32=t:=List.take_of_length_le (by omega)
 have hw:ACall cx 45 [.ptr y 0,.int .i64 rd,.agg (bl t)] S (.int .i64 6) (S++[.cells (bl t) 34]):=by
  refine oA lq45 ?_
  exact wk1 True.intro hAt
 exact hw.keep cxG (by omega) rfl rfl fun i x hx=>.inl hx
theorem ref_settree (h:RefP S y q l b sd L last rs all) (hrn:rs.length≤1000000) {rd:Int} {p:Nat} {e:Int × Rm × Nat} (hp:at? rs rd=some p) (he:rs[p]? = some e) {t:List UInt8} (ht:t.length=32):ACall cx 45 [.ptr y 0,.int .i64 rd,.agg (bl t)] S (.int .i64 0) (S.set b (.row (rowC (rs.set p (e.1,{ e.2.1 with tree:=t },e.2.2))) 99)++[.cells (bl t) 34]):=by
 have hAt:=fun R:St=>ref_at (h.more R) hrn rd
 rw [show atI rs rd=(p:Nat) by unfold atI;rw [hp]] at hAt
 have hy:=h.lt
 have hB:=h.bx
 have hpl:=at_lt hp
 have hn:rs≠[]:=by rintro rfl;simp at hpl
 obtain ⟨hall,hrow⟩:=h.row hn
 have hbl:=(List.getElem?_eq_some_iff.1 hrow).1
 have hrcl:=length_rowC h.ok
 have heo:=h.ok e (List.mem_of_getElem? he)
 have hgo:∀ c∈bl t,c.one=true:=fun c hc=>bl_one _ _ hc
 have htl:(bl t).length=32:=by rw [length_bl];exact ht
 have htt:(bl t).take 32=bl t:=List.take_of_length_le (by omega)
 have tt:t.take 32=t:=List.take_of_length_le (by omega)
 have p1:=rowC_put h.ok he (off:=71) (cs:=bl t) (by rw [htl];decide) (itm_tree_put e.1 heo ht)
 subst hall
 generalize rowC (rs.set p (e.1,{ e.2.1 with tree:=t },e.2.2))=X1 at *
 generalize rowC rs=X0 at *
 refine oA lq45 ?_
 exact wk1 (pk9 @hB @hrow @hrcl @hpl @htl @htt @ht @p1 @Nat.add_assoc) hAt
end
end
end Go.Am
end
section
namespace Go.Am
open Go Go.Proofs
set_option maxHeartbeats 8000000
set_option maxRecDepth 100000
section
attribute [local irreducible] aC aL thenQ blockQ scopeQ ALoop AWp
theorem eraseIdx_eq {α:Type}:∀ (l:List α) (p:Nat),l.eraseIdx p=l.take p++l.drop (p+1)
 |[],p=>by simp
 |_::l,0=>rfl
 |x::l,p+1=>by simp [eraseIdx_eq l p]
theorem flat_take_k {m:Nat}:∀ {ls:List (List AVal)} {k:Nat},(∀ x∈ls,x.length=m)→k≤ls.length→ls.flatten.take (k*m)=(ls.take k).flatten
 |_,0,_,_=>by simp
 |[],k+1,_,h=>by simp at h
 |z::ls,k+1,hl,h=>by
  rw [List.take_succ_cons,List.flatten_cons,List.flatten_cons,Nat.add_mul,List.take_append,List.take_of_length_le (by rw [hl z (List.mem_cons_self ..)];omega),hl z (List.mem_cons_self ..)]
  rw [show k*m+1*m-m=k*m by omega,flat_take_k (fun y hy=>hl y (List.mem_cons_of_mem _ hy)) (by simpa using h)]
theorem flat_drop_k {m:Nat}:∀ {ls:List (List AVal)} {k:Nat},(∀ x∈ls,x.length=m)→k≤ls.length→ls.flatten.drop (k*m)=(ls.drop k).flatten
 |_,0,_,_=>by simp
 |[],k+1,_,h=>by simp at h
 |z::ls,k+1,hl,h=>by
  rw [List.drop_succ_cons,List.flatten_cons,Nat.add_mul,List.drop_append,List.drop_eq_nil_of_le (by rw [hl z (List.mem_cons_self ..)];omega),hl z (List.mem_cons_self ..)]
  rw [show k*m+1*m-m=k*m by omega,flat_drop_k (fun y hy=>hl y (List.mem_cons_of_mem _ hy)) (by simpa using h)]
  rfl
theorem rowC_take {rs:Rs} (h:RsOk rs) {p:Nat} (hp:p≤rs.length):(rowC rs).take (p*104)=rowC (rs.take p):=by
 unfold rowC
 rw [flat_take_k (rowL_len h) (by simpa [rowL] using hp)]
 simp [rowL]
theorem rowC_drop {rs:Rs} (h:RsOk rs) {p:Nat} (hp:p≤rs.length):(rowC rs).drop (p*104)=rowC (rs.drop p):=by
 unfold rowC
 rw [flat_drop_k (rowL_len h) (by simpa [rowL] using hp)]
 simp [rowL]
theorem rowC_erase (rs:Rs) (p:Nat):rowC (rs.eraseIdx p)=rowC (rs.take p)++rowC (rs.drop (p+1)):=by
 rw [eraseIdx_eq]
 simp [rowC,rowL]
section
variable {S:St} {y q l b sd:Nat} {L:List It} {last:Nat} {rs:Rs} {all:AVal}
theorem ref_drop_none (h:RefP S y q l b sd L last rs all) (hrn:rs.length≤1000000) {rd:Int} (hr:at? rs rd=none):ACall cx 46 [.ptr y 0,.int .i64 rd] S (.int .i64 6) S:=by
 have hAt:=fun R:St=>ref_at (h.more R) hrn rd
 rw [show atI rs rd = -1 by unfold atI;rw [hr]] at hAt
 have hy:=h.lt
 have hAt0:=hAt []
 rw [List.append_nil] at hAt0
 refine acall_fnK cxOk Tryz.func46 (fun _=>false) (fe46.q) (by kernel_rfl) (by dsimp only [Tryz.f46,go_sem,seval,liteO,Option.map,List.map];exact .mk _) ?_
 dsimp only [Tryz.f46,frame0,List.zipIdx,List.map,Nat.reduceAdd]
 repeat' (first|refine aC_seq ?_|refine aC_reg rfl ?_|refine aC_ret ?_|refine thenQ_normal ?_|refine thenQ_ret ?_|refine aL_nil ?_|(apply aL_step;(·exact True.intro);(iterate 2 (·simp (disch:=omega) only [go_sem,seval]<;>with_reducible rfl));(·simp only [go_sem]<;>with_reducible rfl))|(refine aC_condT ?_ ?_;(·simp (disch:=omega) only [go_sem,seval]))|(apply aL_aK (hAt0);(·rfl);(iterate 2 (·simp (disch:=omega) only [go_sem,seval]<;>with_reducible rfl));(·simp only [go_sem]<;>with_reducible rfl))|fail)
 all_goals try (first|exact True.intro|exact not_false|omega|(simp (disch:=omega) only [go_sem,seval]<;>omega))
theorem ref_drop_no (h:RefP S y q l b sd L last rs all) (hrn:rs.length≤1000000) {rd:Int} {p:Nat} {e:Int × Rm × Nat} (hp:at? rs rd=some p) (he:rs[p]? = some e) (hrc:0<e.2.1.recs):ACall cx 46 [.ptr y 0,.int .i64 rd] S (.int .i64 9) S:=by
 have hAt:=fun R:St=>ref_at (h.more R) hrn rd
 rw [show atI rs rd=(p:Nat) by unfold atI;rw [hp]] at hAt
 have hy:=h.lt
 have hB:=h.bx
 have hpl:=at_lt hp
 have hn:rs≠[]:=by rintro rfl;simp at hpl
 obtain ⟨hall,hrow⟩:=h.row hn
 have hbl:=(List.getElem?_eq_some_iff.1 hrow).1
 have hrcl:=length_rowC h.ok
 have heo:=h.ok e (List.mem_of_getElem? he)
 have g1:((rowC rs).drop (p*104+103)).take 1=[.int .i64 e.2.1.recs]:=(rowC_get h.ok he (by decide)).trans (itm_recs e.1 heo)
 have hAt0:=hAt []
 rw [List.append_nil] at hAt0
 subst hall
 generalize rowC rs=X0 at *
 refine acall_fnK cxOk Tryz.func46 (fun _=>false) (fe46.q) (by kernel_rfl) (by dsimp only [Tryz.f46,go_sem,seval,liteO,Option.map,List.map];exact .mk _) ?_
 dsimp only [Tryz.f46,frame0,List.zipIdx,List.map,Nat.reduceAdd]
 repeat' (first|refine aC_seq ?_|refine aC_reg rfl ?_|refine aC_skip ?_|refine aC_ret ?_|refine thenQ_normal ?_|refine thenQ_ret ?_|refine aL_nil ?_|(apply aL_step;(·exact True.intro);(iterate 2 (·simp (disch:=omega) only [go_sem,seval,hB,hrow,hrcl,hpl,g1,hrc,Nat.add_assoc,decide_true]<;>with_reducible rfl));(·simp only [go_sem]<;>with_reducible rfl))|(refine aC_condT ?_ ?_;(·simp (disch:=omega) only [go_sem,seval]))|(refine aC_condP (by simp (disch:=omega) only [go_sem,seval]<;>with_reducible rfl) ?_ ?_<;>(intro h;first|(exfalso;omega)|skip))|(apply aL_aK (hAt0);(·rfl);(iterate 2 (·simp (disch:=omega) only [go_sem,seval]<;>with_reducible rfl));(·simp only [go_sem]<;>with_reducible rfl))|fail)
 all_goals try (first|exact True.intro|exact not_false|omega|(simp (disch:=omega) only [go_sem,seval]<;>omega))
theorem ref_drop (h:RefP S y q l b sd L last rs all) (hrn:rs.length≤1000000) {rd:Int} {p:Nat} {e:Int × Rm × Nat} (hp:at? rs rd=some p) (he:rs[p]? = some e) (hrc:e.2.1.recs=0):∃ S' b' all',ACall cx 46 [.ptr y 0,.int .i64 rd] S (.int .i64 0) S'∧Kept S S' y q l b rs∧RefP S' y q l b' sd L last (rs.eraseIdx p) all':=by
 have hAt:=fun R:St=>ref_at (h.more R) hrn rd
 rw [show atI rs rd=(p:Nat) by unfold atI;rw [hp]] at hAt
 have hy:=h.lt
 have hB:=h.bx
 have hpl:=at_lt hp
 have hn:rs≠[]:=by rintro rfl;simp at hpl
 obtain ⟨hall,hrow⟩:=h.row hn
 have hbl:=(List.getElem?_eq_some_iff.1 hrow).1
 have hrcl:=length_rowC h.ok
 have heo:=h.ok e (List.mem_of_getElem? he)
 have g1:((rowC rs).drop (p*104+103)).take 1=[.int .i64 e.2.1.recs]:=(rowC_get h.ok he (by decide)).trans (itm_recs e.1 heo)
 rw [hrc] at g1
 have hAt0:=hAt []
 rw [List.append_nil] at hAt0
 obtain ⟨bn1,bn2,bn3⟩:=h.bne hn
 have hyo:=h.yo
 have hokE:RsOk (rs.eraseIdx p):=fun x hx=>h.ok x (List.mem_of_mem_eraseIdx hx)
 have hlE:(rs.eraseIdx p).length=rs.length-1:=List.length_eraseIdx_of_lt hpl
 have hrt:=rowC_take h.ok (show p≤rs.length by omega)
 have hrd:=rowC_drop h.ok (show p+1≤rs.length by omega)
 have hokD:RsOk (rs.drop (p+1)):=fun x hx=>h.ok x (List.mem_of_mem_drop hx)
 have hokT:RsOk (rs.take p):=fun x hx=>h.ok x (List.mem_of_mem_take hx)
 have hdl:=length_rowC hokD
 have htl:=length_rowC hokT
 rw [List.length_drop] at hdl
 rw [List.length_take,Nat.min_eq_left (by omega)] at htl
 have hdt:(rowC (rs.drop (p+1))).take ((rs.length-(p+1))*104)=rowC (rs.drop (p+1)):=List.take_of_length_le (by omega)
 have w1:(((p:Nat):Int)+1).toNat=p+1:=by omega
 have w2:IntKind.i64.wrap (((p:Nat):Int)+1)=((p:Nat):Int)+1:=by rw [IntKind.wrap_i64];omega
 have hre:=rowC_erase rs p
 have fin:∀ (T:St) (b':Nat) (all':AVal),S.length≤T.length→(∀ i,i<S.length→i≠y→T[i]? = S[i]?)→T[y]? = some (.cells [.ptr q 0,all',.int .u64 last] 82)→(rs.eraseIdx p=[]→∃ z,all' = .sl z true [] .any)→(rs.eraseIdx p≠[]→all' = .ms b' 104 (rs.eraseIdx p).length∧T[b']? = some (.row (rowC (rs.eraseIdx p)) 99)) →
   ACall cx 46 [.ptr y 0,.int .i64 rd] S (.int .i64 0) T→∃ S' b' all',ACall cx 46 [.ptr y 0,.int .i64 rd] S (.int .i64 0) S'∧Kept S S' y q l b rs∧RefP S' y q l b' sd L last (rs.eraseIdx p) all':=fun T b' all' t1 t2 t3 t4 t5 hw =>
  ⟨T,b',all',hw,⟨t1,fun i hi i1 _ _ _=>t2 i hi i1⟩,⟨h.orc.same (t2 q h.orc.lt.1 (Ne.symm hyo.1)) (t2 l h.orc.lt.2 (Ne.symm hyo.2)),t3,t4,t5,hokE⟩⟩
 subst hall
 rcases Nat.eq_zero_or_pos p with hp0|hp0<;>rcases Nat.lt_or_ge (p+1) rs.length with hp1|hp1
 ·have hz:(0=p)=True:=eq_true hp0.symm
  have hx:(p+1=rs.length)=False:=eq_false (by omega)
  have hw:ACall cx 46 [.ptr y 0,.int .i64 rd] S (.int .i64 0) ((S.set y (.cells [.ptr q 0,(.ms S.length 104 (rs.length-(p+1))),.int .u64 last] 82)++[.row (rowC (rs.drop (p+1))) 99])):=by
   clear fin
   generalize rowC (rs.drop (p+1))=X1 at *
   generalize rowC (rs.take p)=X2 at *
   generalize rowC rs=X0 at *
   refine acall_fnK cxOk Tryz.func46 (fun _=>false) (fe46.q) (by kernel_rfl) (by dsimp only [Tryz.f46,go_sem,seval,liteO,Option.map,List.map];exact .mk _) ?_
   dsimp only [Tryz.f46,frame0,List.zipIdx,List.map,Nat.reduceAdd]
   repeat' (first|refine aC_seq ?_|refine aC_reg rfl ?_|refine aC_skip ?_|refine thenQ_normal ?_|refine aL_nil ?_|(apply aL_step;(·exact True.intro);(iterate 2 (·simp (disch:=omega) only [go_sem,seval,hB,hrow,hrcl,hpl,g1,Nat.add_assoc,decide_false]<;>with_reducible rfl));(·simp only [go_sem]<;>with_reducible rfl))|(refine aC_condF ?_ ?_;(·simp (disch:=omega) only [go_sem,seval]))|(refine aC_condP (by simp (disch:=omega) only [go_sem,seval]<;>with_reducible rfl) ?_ ?_<;>(intro h;first|(exfalso;omega)|skip))|(apply aL_aK (hAt0);(·rfl);(iterate 2 (·simp (disch:=omega) only [go_sem,seval]<;>with_reducible rfl));(·simp only [go_sem]<;>with_reducible rfl))|fail)
   refine aC_regB (U:=[(some 32,some 28)]) rfl [(some 25,y),(some 32,y)] ?_
   repeat' (first|(apply aLB_appR;(case hg=>simp (disch:=omega) only [go_sem,seval]<;>with_reducible rfl);(case hx=>simp (disch:=omega) only [go_sem,seval]<;>with_reducible rfl);(case hv=>simp (disch:=omega) only [go_sem,seval]<;>with_reducible rfl);(case h=>(simp (disch:=omega) only [aAppR,srcC,srcCOk,flatC,go_sem,seval,hrow,hrd,hdt,Nat.zero_mul];with_reducible rfl));(case hf=>simp only [go_sem]<;>with_reducible rfl);(case hk=>(first|(simp;done)|(intro e he _;simp only [List.mem_cons,List.not_mem_nil,or_false] at he;(repeat' (obtain he|he:=(he:_∨_)));all_goals (subst he;simp (disch:=omega) only [go_sem,seval,hB]))));(case' hs=>((try simp only [false_and,and_false]);(fail_if_success (show False)))))|(apply aLB_appN;(case hg=>simp (disch:=omega) only [go_sem,seval]<;>with_reducible rfl);(case hx=>simp (disch:=omega) only [go_sem,seval]<;>with_reducible rfl);(case hv=>simp (disch:=omega) only [go_sem,seval]<;>with_reducible rfl);(case h=>(simp (disch:=omega) only [aAppN,srcC,srcCOk,flatC,go_sem,seval];with_reducible rfl));(case hf=>simp only [go_sem]<;>with_reducible rfl);(case hk=>(first|(simp;done)|(intro e he _;simp only [List.mem_cons,List.not_mem_nil,or_false] at he;(repeat' (obtain he|he:=(he:_∨_)));all_goals (subst he;simp (disch:=omega) only [go_sem,seval,hB,hrow,hrcl,w1,w2,hrt,hrd,hdt,hdl,htl,msCut,Nat.zero_add,Nat.zero_mul,Nat.sub_zero,List.drop_zero,hz,hx]))));(case' hs=>((try simp only []);(fail_if_success (show False)))))|refine aLB_nil ?_|(apply aLB_step;(·exact True.intro);(·exact (by intro h;cases h));(·rfl);(·simp (disch:=omega) only [go_sem,seval]);(·simp (disch:=omega) only [go_sem,seval,hB,w1,w2,msCut,Nat.zero_add,List.drop_zero,hz,hx]<;>with_reducible rfl);(·simp only [go_sem]<;>with_reducible rfl);(·(intro b hb;first|(cases hb;done)|(simp (disch:=omega) only [loadBox,go_sem,seval] at hb;(try injection hb with hb);subst hb;simp))))|(apply aLB_write;(·exact True.intro);(·rfl);(·rfl);(·simp (disch:=omega) only [go_sem,seval]);(·simp (disch:=omega) only [go_sem,seval,hB,Nat.zero_add]<;>with_reducible rfl);(·simp only [go_sem]<;>with_reducible rfl);(·first|(simp;done)|(intro e he _;simp only [List.mem_cons,List.not_mem_nil,or_false] at he;(repeat' (obtain he|he:=(he:_∨_)));all_goals (subst he;simp (disch:=omega) only [go_sem,seval,hB,hrow,hrcl,w1,w2,hrt,hrd,hdt,hdl,htl,msCut,Nat.zero_add,Nat.zero_mul,Nat.sub_zero,List.drop_zero,hz,hx]))))|fail)
   repeat' (first|refine aC_seq ?_|refine aC_reg rfl ?_|refine aC_ret ?_|refine thenQ_normal ?_|refine aL_nil ?_|(apply aL_step;(·exact True.intro);(iterate 2 (·simp (disch:=omega) only [go_sem,seval]<;>with_reducible rfl));(·simp only [go_sem]<;>with_reducible rfl))|fail)
   all_goals try (first|exact True.intro|exact not_false|omega|(simp (disch:=omega) only [go_sem,seval]<;>omega))
   all_goals try exact ⟨⟨_,_,rfl,by omega⟩,by omega,by omega,by omega⟩
   all_goals try exact fun c hc=>by rw [List.mem_singleton.1 hc];rfl
  have hre2:rowC (rs.eraseIdx p)=rowC (rs.drop (p+1)):=by rw [hre,hp0];simp [rowC,rowL]
  refine fin _ S.length (.ms S.length 104 (rs.length-(p+1))) (by simp) (fun i hi i1=>by rw [List.getElem?_append_left (by rw [List.length_set];exact hi),List.getElem?_set_ne (Ne.symm i1)]) (by rw [List.getElem?_append_left (by rw [List.length_set];exact hy),List.getElem?_set_self hy]) (fun k=>by rw [k] at hlE;simp at hlE;omega) (fun _=>⟨by rw [hlE,hp0],by rw [List.getElem?_append_right (by rw [List.length_set];omega),List.length_set,Nat.sub_self,hre2];rfl⟩) hw
 ·have hz:(0=p)=True:=eq_true hp0.symm
  have hx:(p+1=rs.length)=True:=eq_true (by omega)
  have hw:ACall cx 46 [.ptr y 0,.int .i64 rd] S (.int .i64 0) ((S.set y (.cells [.ptr q 0,(.sl 1 true [] .any),.int .u64 last] 82))):=by
   clear fin
   generalize rowC (rs.drop (p+1))=X1 at *
   generalize rowC (rs.take p)=X2 at *
   generalize rowC rs=X0 at *
   refine acall_fnK cxOk Tryz.func46 (fun _=>false) (fe46.q) (by kernel_rfl) (by dsimp only [Tryz.f46,go_sem,seval,liteO,Option.map,List.map];exact .mk _) ?_
   dsimp only [Tryz.f46,frame0,List.zipIdx,List.map,Nat.reduceAdd]
   repeat' (first|refine aC_seq ?_|refine aC_reg rfl ?_|refine aC_skip ?_|refine thenQ_normal ?_|refine aL_nil ?_|(apply aL_step;(·exact True.intro);(iterate 2 (·simp (disch:=omega) only [go_sem,seval,hB,hrow,hrcl,hpl,g1,Nat.add_assoc,decide_false]<;>with_reducible rfl));(·simp only [go_sem]<;>with_reducible rfl))|(refine aC_condF ?_ ?_;(·simp (disch:=omega) only [go_sem,seval]))|(refine aC_condP (by simp (disch:=omega) only [go_sem,seval]<;>with_reducible rfl) ?_ ?_<;>(intro h;first|(exfalso;omega)|skip))|(apply aL_aK (hAt0);(·rfl);(iterate 2 (·simp (disch:=omega) only [go_sem,seval]<;>with_reducible rfl));(·simp only [go_sem]<;>with_reducible rfl))|fail)
   refine aC_regB (U:=[(some 32,some 28)]) rfl [(some 25,y),(some 32,y)] ?_
   repeat' (first|(apply aLB_appN;(case hg=>simp (disch:=omega) only [go_sem,seval]<;>with_reducible rfl);(case hx=>simp (disch:=omega) only [go_sem,seval]<;>with_reducible rfl);(case hv=>simp (disch:=omega) only [go_sem,seval]<;>with_reducible rfl);(case h=>(simp (disch:=omega) only [aAppN,srcC,srcCOk,flatC,go_sem,seval];with_reducible rfl));(case hf=>simp only [go_sem]<;>with_reducible rfl);(case hk=>(first|(simp;done)|(intro e he _;simp only [List.mem_cons,List.not_mem_nil,or_false] at he;(repeat' (obtain he|he:=(he:_∨_)));all_goals (subst he;simp (disch:=omega) only [go_sem,seval,hB,hrow,hrcl,w1,w2,hrt,hrd,hdt,hdl,htl,msCut,Nat.zero_add,Nat.zero_mul,Nat.sub_zero,List.drop_zero,hz,hx]))));(case' hs=>((try simp only []);(fail_if_success (show False)))))|refine aLB_nil ?_|(apply aLB_step;(·exact True.intro);(·exact (by intro h;cases h));(·rfl);(·simp (disch:=omega) only [go_sem,seval]);(·simp (disch:=omega) only [go_sem,seval,hB,w1,w2,msCut,Nat.zero_add,List.drop_zero,hz,hx]<;>with_reducible rfl);(·simp only [go_sem]<;>with_reducible rfl);(·(intro b hb;first|(cases hb;done)|(simp (disch:=omega) only [loadBox,go_sem,seval] at hb;(try injection hb with hb);subst hb;simp))))|(apply aLB_write;(·exact True.intro);(·rfl);(·rfl);(·simp (disch:=omega) only [go_sem,seval]);(·simp (disch:=omega) only [go_sem,seval,hB,Nat.zero_add]<;>with_reducible rfl);(·simp only [go_sem]<;>with_reducible rfl);(·first|(simp;done)|(intro e he _;simp only [List.mem_cons,List.not_mem_nil,or_false] at he;(repeat' (obtain he|he:=(he:_∨_)));all_goals (subst he;simp (disch:=omega) only [go_sem,seval,hB,hrow,hrcl,w1,w2,hrt,hrd,hdt,hdl,htl,msCut,Nat.zero_add,Nat.zero_mul,Nat.sub_zero,List.drop_zero,hz,hx]))))|fail)
   repeat' (first|refine aC_seq ?_|refine aC_reg rfl ?_|refine aC_ret ?_|refine thenQ_normal ?_|refine aL_nil ?_|(apply aL_step;(·exact True.intro);(iterate 2 (·simp (disch:=omega) only [go_sem,seval]<;>with_reducible rfl));(·simp only [go_sem]<;>with_reducible rfl))|fail)
   all_goals try (first|exact True.intro|exact not_false|omega|(simp (disch:=omega) only [go_sem,seval]<;>omega))
  exact fin _ 0 (.sl 1 true [] .any) (by simp) (fun i hi i1=>List.getElem?_set_ne (Ne.symm i1)) (List.getElem?_set_self hy) (fun _=>⟨1,rfl⟩) (fun k=>absurd (List.length_eq_zero_iff.1 (by rw [hlE];omega)) k) hw
 ·have hz:(0=p)=False:=eq_false (by omega)
  have hx:(p+1=rs.length)=False:=eq_false (by omega)
  have hw:ACall cx 46 [.ptr y 0,.int .i64 rd] S (.int .i64 0) ((S.set y (.cells [.ptr q 0,(.ms (S.length+1) 104 (p+(rs.length-(p+1)))),.int .u64 last] 82)++[.dead,.row (rowC (rs.take p)++rowC (rs.drop (p+1))) 99])):=by
   clear fin
   generalize rowC (rs.drop (p+1))=X1 at *
   generalize rowC (rs.take p)=X2 at *
   generalize rowC rs=X0 at *
   refine acall_fnK cxOk Tryz.func46 (fun _=>false) (fe46.q) (by kernel_rfl) (by dsimp only [Tryz.f46,go_sem,seval,liteO,Option.map,List.map];exact .mk _) ?_
   dsimp only [Tryz.f46,frame0,List.zipIdx,List.map,Nat.reduceAdd]
   repeat' (first|refine aC_seq ?_|refine aC_reg rfl ?_|refine aC_skip ?_|refine thenQ_normal ?_|refine aL_nil ?_|(apply aL_step;(·exact True.intro);(iterate 2 (·simp (disch:=omega) only [go_sem,seval,hB,hrow,hrcl,hpl,g1,Nat.add_assoc,decide_false]<;>with_reducible rfl));(·simp only [go_sem]<;>with_reducible rfl))|(refine aC_condF ?_ ?_;(·simp (disch:=omega) only [go_sem,seval]))|(refine aC_condP (by simp (disch:=omega) only [go_sem,seval]<;>with_reducible rfl) ?_ ?_<;>(intro h;first|(exfalso;omega)|skip))|(apply aL_aK (hAt0);(·rfl);(iterate 2 (·simp (disch:=omega) only [go_sem,seval]<;>with_reducible rfl));(·simp only [go_sem]<;>with_reducible rfl))|fail)
   refine aC_regB (U:=[(some 32,some 28)]) rfl [(some 25,y),(some 32,y)] ?_
   repeat' (first|(apply aLB_appR;(case hg=>simp (disch:=omega) only [go_sem,seval]<;>with_reducible rfl);(case hx=>simp (disch:=omega) only [go_sem,seval]<;>with_reducible rfl);(case hv=>simp (disch:=omega) only [go_sem,seval]<;>with_reducible rfl);(case h=>(simp (disch:=omega) only [aAppR,srcC,srcCOk,go_sem,seval,hrow,hrt,hrd,hdt,htl,Nat.zero_add,List.drop_zero];with_reducible rfl));(case hf=>simp only [go_sem]<;>with_reducible rfl);(case hk=>(first|(simp;done)|(intro e he _;simp only [List.mem_cons,List.not_mem_nil,or_false] at he;(repeat' (obtain he|he:=(he:_∨_)));all_goals (subst he;simp (disch:=omega) only [go_sem,seval,hB]))));(case' hs=>((try simp only [false_and,and_false]);(fail_if_success (show False)))))|refine aLB_nil ?_|(apply aLB_step;(·exact True.intro);(·exact (by intro h;cases h));(·rfl);(·simp (disch:=omega) only [go_sem,seval]);(·simp (disch:=omega) only [go_sem,seval,hB,w1,w2,msCut,Nat.zero_add,Nat.zero_mul,Nat.sub_zero,List.drop_zero,hz,hx]<;>with_reducible rfl);(·simp only [go_sem]<;>with_reducible rfl);(·(intro b hb;first|(cases hb;done)|(simp (disch:=omega) only [loadBox,go_sem,seval] at hb;(try injection hb with hb);subst hb;simp))))|(apply aLB_write;(·exact True.intro);(·rfl);(·rfl);(·simp (disch:=omega) only [go_sem,seval]);(·simp (disch:=omega) only [go_sem,seval,hB,Nat.zero_add]<;>with_reducible rfl);(·simp only [go_sem]<;>with_reducible rfl);(·first|(simp;done)|(intro e he _;simp only [List.mem_cons,List.not_mem_nil,or_false] at he;(repeat' (obtain he|he:=(he:_∨_)));all_goals (subst he;simp (disch:=omega) only [go_sem,seval,hB,hrow,hrcl,w1,w2,hrt,hrd,hdt,hdl,htl,msCut,Nat.zero_add,Nat.zero_mul,Nat.sub_zero,List.drop_zero,hz,hx]))))|fail)
   repeat' (first|refine aC_seq ?_|refine aC_reg rfl ?_|refine aC_ret ?_|refine thenQ_normal ?_|refine aL_nil ?_|(apply aL_step;(·exact True.intro);(iterate 2 (·simp (disch:=omega) only [go_sem,seval]<;>with_reducible rfl));(·simp only [go_sem]<;>with_reducible rfl))|fail)
   all_goals try (first|exact True.intro|exact not_false|omega|(simp (disch:=omega) only [go_sem,seval]<;>omega))
   all_goals try exact ⟨⟨_,_,rfl,by omega⟩,by omega,by omega,by omega⟩
   all_goals try exact fun c hc=>by rw [List.mem_singleton.1 hc];rfl
  rw [← hre] at hw
  exact fin _ (S.length+1) (.ms (S.length+1) 104 (p+(rs.length-(p+1)))) (by simp) (fun i hi i1=>by rw [List.getElem?_append_left (by rw [List.length_set];exact hi),List.getElem?_set_ne (Ne.symm i1)]) (by rw [List.getElem?_append_left (by rw [List.length_set];exact hy),List.getElem?_set_self hy]) (fun k=>by rw [k] at hlE;simp at hlE;omega) (fun _=>⟨by rw [hlE,show p+(rs.length-(p+1))=rs.length-1 by omega],by rw [List.getElem?_append_right (by rw [List.length_set];omega),List.length_set,Nat.add_sub_cancel_left];rfl⟩) hw
 ·have hz:(0=p)=False:=eq_false (by omega)
  have hx:(p+1=rs.length)=True:=eq_true (by omega)
  have hw:ACall cx 46 [.ptr y 0,.int .i64 rd] S (.int .i64 0) ((S.set y (.cells [.ptr q 0,(.ms S.length 104 p),.int .u64 last] 82)++[.row (rowC (rs.take p)) 99])):=by
   clear fin
   generalize rowC (rs.drop (p+1))=X1 at *
   generalize rowC (rs.take p)=X2 at *
   generalize rowC rs=X0 at *
   refine acall_fnK cxOk Tryz.func46 (fun _=>false) (fe46.q) (by kernel_rfl) (by dsimp only [Tryz.f46,go_sem,seval,liteO,Option.map,List.map];exact .mk _) ?_
   dsimp only [Tryz.f46,frame0,List.zipIdx,List.map,Nat.reduceAdd]
   repeat' (first|refine aC_seq ?_|refine aC_reg rfl ?_|refine aC_skip ?_|refine thenQ_normal ?_|refine aL_nil ?_|(apply aL_step;(·exact True.intro);(iterate 2 (·simp (disch:=omega) only [go_sem,seval,hB,hrow,hrcl,hpl,g1,Nat.add_assoc,decide_false]<;>with_reducible rfl));(·simp only [go_sem]<;>with_reducible rfl))|(refine aC_condF ?_ ?_;(·simp (disch:=omega) only [go_sem,seval]))|(refine aC_condP (by simp (disch:=omega) only [go_sem,seval]<;>with_reducible rfl) ?_ ?_<;>(intro h;first|(exfalso;omega)|skip))|(apply aL_aK (hAt0);(·rfl);(iterate 2 (·simp (disch:=omega) only [go_sem,seval]<;>with_reducible rfl));(·simp only [go_sem]<;>with_reducible rfl))|fail)
   refine aC_regB (U:=[(some 32,some 28)]) rfl [(some 25,y),(some 32,y)] ?_
   repeat' (first|(apply aLB_appR;(case hg=>simp (disch:=omega) only [go_sem,seval]<;>with_reducible rfl);(case hx=>simp (disch:=omega) only [go_sem,seval]<;>with_reducible rfl);(case hv=>simp (disch:=omega) only [go_sem,seval]<;>with_reducible rfl);(case h=>(simp (disch:=omega) only [aAppR,srcC,srcCOk,flatC,go_sem,seval,hrow,hrt,htl,Nat.zero_add,List.drop_zero];with_reducible rfl));(case hf=>simp only [go_sem]<;>with_reducible rfl);(case hk=>(first|(simp;done)|(intro e he _;simp only [List.mem_cons,List.not_mem_nil,or_false] at he;(repeat' (obtain he|he:=(he:_∨_)));all_goals (subst he;simp (disch:=omega) only [go_sem,seval,hB]))));(case' hs=>((try simp only [false_and]);(fail_if_success (show False)))))|(apply aLB_appN;(case hg=>simp (disch:=omega) only [go_sem,seval]<;>with_reducible rfl);(case hx=>simp (disch:=omega) only [go_sem,seval]<;>with_reducible rfl);(case hv=>simp (disch:=omega) only [go_sem,seval]<;>with_reducible rfl);(case h=>(simp (disch:=omega) only [aAppN,srcC,srcCOk,flatC,go_sem,seval];with_reducible rfl));(case hf=>simp only [go_sem]<;>with_reducible rfl);(case hk=>(first|(simp;done)|(intro e he _;simp only [List.mem_cons,List.not_mem_nil,or_false] at he;(repeat' (obtain he|he:=(he:_∨_)));all_goals (subst he;simp (disch:=omega) only [go_sem,seval,hB,hrow,hrcl,w1,w2,hrt,hrd,hdt,hdl,htl,msCut,Nat.zero_add,Nat.zero_mul,Nat.sub_zero,List.drop_zero,hz,hx]))));(case' hs=>((try simp only []);(fail_if_success (show False)))))|refine aLB_nil ?_|(apply aLB_step;(·exact True.intro);(·exact (by intro h;cases h));(·rfl);(·simp (disch:=omega) only [go_sem,seval]);(·simp (disch:=omega) only [go_sem,seval,hB,w1,w2,msCut,Nat.zero_add,Nat.zero_mul,Nat.sub_zero,List.drop_zero,hz,hx]<;>with_reducible rfl);(·simp only [go_sem]<;>with_reducible rfl);(·(intro b hb;first|(cases hb;done)|(simp (disch:=omega) only [loadBox,go_sem,seval] at hb;(try injection hb with hb);subst hb;simp))))|(apply aLB_write;(·exact True.intro);(·rfl);(·rfl);(·simp (disch:=omega) only [go_sem,seval]);(·simp (disch:=omega) only [go_sem,seval,hB,Nat.zero_add]<;>with_reducible rfl);(·simp only [go_sem]<;>with_reducible rfl);(·first|(simp;done)|(intro e he _;simp only [List.mem_cons,List.not_mem_nil,or_false] at he;(repeat' (obtain he|he:=(he:_∨_)));all_goals (subst he;simp (disch:=omega) only [go_sem,seval,hB,hrow,hrcl,w1,w2,hrt,hrd,hdt,hdl,htl,msCut,Nat.zero_add,Nat.zero_mul,Nat.sub_zero,List.drop_zero,hz,hx]))))|fail)
   repeat' (first|refine aC_seq ?_|refine aC_reg rfl ?_|refine aC_ret ?_|refine thenQ_normal ?_|refine aL_nil ?_|(apply aL_step;(·exact True.intro);(iterate 2 (·simp (disch:=omega) only [go_sem,seval]<;>with_reducible rfl));(·simp only [go_sem]<;>with_reducible rfl))|fail)
   all_goals try (first|exact True.intro|exact not_false|omega|(simp (disch:=omega) only [go_sem,seval]<;>omega))
   all_goals try exact ⟨⟨_,_,rfl,by omega⟩,by omega,by omega,by omega⟩
   all_goals try exact fun c hc=>by rw [List.mem_singleton.1 hc];rfl
  have hre2:rowC (rs.eraseIdx p)=rowC (rs.take p):=by rw [hre,List.drop_eq_nil_of_le (by omega)];simp [rowC,rowL]
  exact fin _ S.length (.ms S.length 104 p) (by simp) (fun i hi i1=>by rw [List.getElem?_append_left (by rw [List.length_set];exact hi),List.getElem?_set_ne (Ne.symm i1)]) (by rw [List.getElem?_append_left (by rw [List.length_set];exact hy),List.getElem?_set_self hy]) (fun k=>by rw [k] at hlE;simp at hlE;omega) (fun _=>⟨by rw [hlE,show rs.length-1=p by omega],by rw [List.getElem?_append_right (by rw [List.length_set];omega),List.length_set,Nat.sub_self,hre2];rfl⟩) hw
end
end
end Go.Am
end
section
namespace Go.Am
open Go Go.Proofs
set_option maxHeartbeats 8000000
set_option maxRecDepth 100000
section
attribute [local irreducible] aC aL thenQ blockQ scopeQ ALoop AWp
theorem skbs_wl0:∀ {a b:List Nat},a.length=b.length→skbs (wl a) (wl b)=true
 |[],[],_=>rfl
 |_::a,_::b,h=>by
  show skbs (_::wl a) (_::wl b)=true
  rw [skbs_cons,skb_int]
  simp only [Bool.and_eq_true,beq_self_eq_true,true_and]
  exact skbs_wl0 (by simpa using h)
theorem skbs_rd {r:Rcd} (h:r.Ok):skbs (rdC r) (.int .i64 0::(bl (List.replicate 32 0)++(.int .i64 0::(bl (List.replicate 128 0)++(.int .u64 0::(wl (List.replicate 8 0)++[.bool false]))))))=true:=by
 unfold rdC rpC
 rw [skbs_cons,skb_int,skbs_app (skbs_by (by simp [h.v])) (by
  rw [skbs_cons,skb_int,skbs_app (skbs_by (by simp [h.d])) (by
   rw [skbs_cons,skb_int,skbs_app (skbs_wl0 (by simp [h.p.l])) rfl]
   rfl)]
  rfl)]
 rfl
theorem ref_sameLog {S:St} (h0:0<S.length) (a:List Rcd) (nl:Bool) (ha:∀ x∈a,x.Ok) (hl:a.length≤1000000):ACall cx 19 [.sl 172 nl (gls rdC a) .any,.sl 172 nl (gls rdC a) .any] S (.bool true) S:=by
 have hgl:(gls rdC a).length=a.length:=length_gls _ _
 refine oA lq19 ?_
 refine st @hgl ?_
 ·refine loop_rule (cxOk.wp _ _) (σ:=Nat) (fun k=>[(5,.int .i64 k),(0,.sl 172 nl (gls rdC a) .any),(1,.sl 172 nl (gls rdC a) .any)])
   (fun _=>S) (fun k=>a.length-k) (fun k=>k≤a.length) 0 (GStep.refl _ _) ⟨Nat.zero_le _,Sub.of_all (by simp [Fr.get,frame0]),rfl⟩ ?_
  intro k hk
  by_cases hlt:k<a.length
  ·have hlt':((k:Nat):Int)<(a.length:Int):=by omega
   have hg:=getD_gls rdC a ⟨0,[],0,[],⟨0,[],false⟩⟩ k .any hlt
   have hx:=ha (a.getD k ⟨0,[],0,[],⟨0,[],false⟩⟩) (by rw [show a.getD k ⟨0,[],0,[],⟨0,[],false⟩⟩=a[k] by simp [List.getD,hlt]];exact List.getElem_mem hlt)
   generalize a.getD k ⟨0,[],0,[],⟨0,[],false⟩⟩=x at *
   have hrl:=length_rdC hx
   have hrt:(rdC x).take 172=rdC x:=List.take_of_length_le (by omega)
   have hsk:=skbs_rd hx
   generalize rdC x=R at *
   have F:=(pk5 @hgl @hlt' @hg @hrl @hrt)
   repeat' (first|refine st F ?_|(refine cp F ?_ ?_<;>intro h)|refine zT F ?_ ?_)
   all_goals try exact cl F
   all_goals try (exact ⟨k+1,by omega,Sub.of_all (by simp [Fr.get]),rfl,by omega⟩)
   all_goals try exact ⟨by kernel_rfl,by kernel_rfl,hsk,hsk⟩
   all_goals try exact ⟨by kernel_rfl,by kernel_rfl,by kernel_rfl,hsk,hsk⟩
   all_goals try omega
  ·have hk2:k=a.length:=by omega
   subst hk2
   exact wk @hgl
 all_goals try (first|trivial|omega|(simp;done))
theorem rm_1 (r:Rm):(rmC r).take 1=[.int .u64 r.inst]:=rfl
theorem rm_2 (r:Rm):((rmC r).drop 1).take 1=[.int .i64 r.st]:=rfl
theorem rm_3 (r:Rm):((rmC r).drop 2).take 1=[.int .i64 r.root]:=rfl
theorem rm_4 (r:Rm):((rmC r).drop 3).take 1=[.int .u64 r.nodes]:=rfl
theorem rm_5 {r:Rm} (h:r.Ok):((rmC r).drop 4).take 32=bl r.meas:=itm_meas 0 h
theorem rm_6 {r:Rm} (h:r.Ok):((rmC r).drop 36).take 1=[.sl 172 r.nl (gls rdC r.log) .any]:=itm_log 0 h
theorem rm_7 {r:Rm} (h:r.Ok):((rmC r).drop 37).take 32=bl r.key:=by
 unfold rmC
 simp only [List.drop_succ_cons]
 rw [show 33=1+32 from rfl,o_drop h.m,List.drop_succ_cons,List.drop_zero,o_take h.k]
theorem rm_8 {r:Rm} (h:r.Ok):((rmC r).drop 69).take 1=[.int .u64 r.ctr]:=itm_ctr 0 h
theorem rm_9 {r:Rm} (h:r.Ok):((rmC r).drop 70).take 32=bl r.tree:=by
 unfold rmC
 simp only [List.drop_succ_cons]
 rw [show 66=34+32 from rfl,o_drop h.m,List.drop_succ_cons,show 33=1+32 from rfl,o_drop h.k,List.drop_succ_cons,List.drop_zero,o_take h.t]
theorem rm_10 {r:Rm} (h:r.Ok):((rmC r).drop 102).take 1=[.int .i64 r.recs]:=itm_recs 0 h
theorem ref_same_rm {S:St} (h0:0<S.length) {r:Rm} (h:r.Ok) (hl:r.log.length≤1000000):ACall cx 18 [.agg (rmC r),.agg (rmC r)] S (.bool true) S:=by
 have hw:ACall cx 18 [.agg (rmC r),.agg (rmC r)] S (.bool true) (S++[.cells (rmC r) 37,.cells (rmC r) 37]):=by
  have f1:=rm_1 r
  have f2:=rm_2 r
  have f3:=rm_3 r
  have f4:=rm_4 r
  have f5:=rm_5 h
  have f6:=rm_6 h
  have f7:=rm_7 h
  have f8:=rm_8 h
  have f9:=rm_9 h
  have f10:=rm_10 h
  have hone:=rm_one r
  have hrl:=length_rmC h
  have hL:=fun R:St=>ref_sameLog (S:=S++R) (by simp;omega) r.log r.nl h.l hl
  have m1:(bl r.meas).length=32:=by rw [length_bl];exact h.m
  have m2:(bl r.key).length=32:=by rw [length_bl];exact h.k
  have m3:(bl r.tree).length=32:=by rw [length_bl];exact h.t
  have s1:skbs (bl r.meas) (bl (List.replicate 32 0))=true:=skbs_by (by simp [h.m])
  have s2:skbs (bl r.key) (bl (List.replicate 32 0))=true:=skbs_by (by simp [h.k])
  have s3:skbs (bl r.tree) (bl (List.replicate 32 0))=true:=skbs_by (by simp [h.t])
  generalize rmC r=R at *
  generalize bl r.meas=B1 at *
  generalize bl r.key=B2 at *
  generalize bl r.tree=B3 at *
  generalize gls rdC r.log=G at *
  refine oA lq18 ?_
  try dsimp only [List.append,List.map,liteO,Option.map]
  have F:=(pk12 @f1 @f2 @f3 @f4 @f5 @f6 @f7 @f8 @f9 @f10 @hrl (pk3 @m1 @m2 @m3))
  repeat' (first|refine st1 F hL ?_|(refine cp F ?_ ?_<;>intro h)|refine zT F ?_ ?_)
  all_goals try exact cl F
  all_goals try exact hone
  all_goals try exact ⟨by kernel_rfl,by kernel_rfl,s1,s1⟩
  all_goals try exact ⟨by kernel_rfl,by kernel_rfl,s2,s2⟩
  all_goals try exact ⟨by kernel_rfl,by kernel_rfl,s3,s3⟩
 exact hw.keep cxG h0 rfl rfl fun i x hx=>.inl hx
end
end Go.Am
end
