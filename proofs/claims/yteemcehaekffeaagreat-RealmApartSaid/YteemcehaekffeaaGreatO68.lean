/- The pair, and the reference: are they the same? -/
import Derived.Test.YteemcehaekffeaaGreatO64
import Derived.Test.YteemcehaekffeaaGreatO60
import Derived.Test.YteemcehaekffeaaGreatQ36
import Derived.Test.YteemcehaekffeaaGreatO32
set_option linter.unusedVariables false
set_option linter.unusedSimpArgs false
section
namespace Go.Am
open Go Go.Proofs
set_option maxHeartbeats 8000000
set_option maxRecDepth 100000
section
attribute [local irreducible] aC aL thenQ blockQ scopeQ ALoop AWp
variable {tg:Tag} {S:St} {x a o k l:Nat} {m:List UInt8} {nd:Bool} {dr:List (List UInt8)} {L:List It} {last:Nat} {rs:Rs} {c y q lq b sd:Nat} {all:AVal}
theorem log0 (h:OrcG S o k m nd dr [] true tg):ACall cx 57 [.ptr o 0] S (.sl 67 true [] .any) S:=by
 have hT:=h.there
 have hS:=h.bx
 have hm:=h.m32
 have ho:=h.lt.1
 have j1:=fun n q=>o_drop h.m32 n q
 have hC:APure cx 51 [.sl 67 true [] .any] (.sl 67 true [] .any):=clone_askedP true [] (fun _=>rfl) (by simp)
 unfold orT at hS
 have e:gls itC []=[]:=rfl
 rw [e] at hS
 refine oA lq57 ?_
 have F:=pk3 @hS @j1 @hm
 refine st2 F hT hC ?_
 refine loop_rule (cxOk.wp _ _) (σ:=Unit) (fun _=>[(15,.int .i64 0),(14,.int .i64 0),(3,.sl 67 true [] .any)]) (fun _=>S) (fun _=>0) (fun _=>True) () (GStep.refl _ _) ⟨True.intro,Sub.of_all (by simp [Fr.get]),rfl⟩ fun _ _=>?_
 exact wk True.intro
theorem sameLog0 (nl nl2:Bool) (t1 t2:Tag) (sz1 sz2:Nat):ACall cx 56 [.sl sz1 nl [] t1,.sl sz2 nl2 [] t2] S (.bool true) S:=by
 refine oA lq56 ?_
 refine st True.intro ?_
 refine loop_rule (cxOk.wp _ _) (σ:=Unit) (fun _=>[(5,.int .i64 0),(0,.sl sz1 nl [] t1)]) (fun _=>S) (fun _=>0) (fun _=>True) () (GStep.refl _ _) ⟨True.intro,Sub.of_all (by simp [Fr.get]),rfl⟩ fun _ _=>?_
 exact wk True.intro
theorem orcG_of (h:OrcP S o k l m nd dr L) (hnd:nd=true→dr=[]) (hdq:(L.map (·.q)).Nodup) (hll:L.length≤900000):OrcG S o k m nd dr L L.isEmpty (.own l) :=
 ⟨h.bx,h.mp,h.m32,hnd,h.drl,h.wf,hdq,fun e=>by simpa using e,hll⟩
def lastK (ks:Rs):Nat→Int
 |0 => -1
 |j+1=>match ks[j]? with
  |some e=>e.1
  |none=>0
theorem pair_same (hz:RzP S x a o k l m nd dr L last rs c) (hf:RefP S y q lq b sd L last rs all) (hr:RsK rs c) (h0:∀ e∈rs,0≤e.1) (hda:∀ i∈L,(i.nl=true→i.q.data=[])∧i.q.data.length≤1000000000) (hnd:nd=true→dr=[]) (hdq:(L.map (·.q)).Nodup) (hll:L.length≤900000) :
  ACall cx 20 [.agg [.ptr o 0,.ptr x 0,.ptr y 0]] S (.bool true) S:=by
 have hks:=hr.ks hz.rms.ok
 have ho:=hz.rms.lt
 have hAll:=fun R:St=>realm_all (hz.rms.more R) hr.bo hr.lg
 refine ACallP.same cxG (oQ lq20 ?_) (by omega) rfl
 refine st1 True.intro hAll ?_
 have hst:∀ (j:Nat) (hj:j<(srt rs).length),((srt rs).take (j+1)).map (fun e:Int × Rm × Nat=>ABox.cells (rmC e.2.1) 37)=((srt rs).take j).map (fun e=>.cells (rmC e.2.1) 37)++[.cells (rmC (srt rs)[j].2.1) 37]:=fun j hj=>by
  rw [List.take_succ_eq_append_getElem hj];simp only [List.map_append,List.map_cons,List.map_nil]
 have hlk:∀ (j:Nat) (hj:j<(srt rs).length),lastK (srt rs) (j+1)=(srt rs)[j].1:=fun j hj=>by simp [lastK,hj]
 have hls:(srt rs).length=rs.length:=srt_len rs
 refine rg_all (S.length+6) (m:=S.length+2) (clk:=rs.length) (ks:=srt rs) (cv:=S.length+3) (ev @Nat.add_assoc) hks ⟨ev True.intro,ev True.intro⟩
  (fun j=>S++[.cells [.ptr o 0,.ptr x 0,.ptr y 0] 28,.cells [.bool false] 4,.mpx (rmX (srt rs)) rs.length,.cells [.map (S.length+2)] 88,.cells [.int .i64 j] 3,.cells [.int .i64 (lastK (srt rs) j)] 3])
  (fun j=>((srt rs).take j).map fun e=>.cells (rmC e.2.1) 37) (by simp [lastK]) rfl (by simp) (fun j _=>⟨by simp,ev True.intro,ev True.intro⟩) (fun L0 Ld Lb j hjk=>?_) (fun L0=>?_)
 ·have hKl:(((srt rs).take j).map fun e:Int × Rm × Nat=>ABox.cells (rmC e.2.1) 37).length=j:=by simp;omega
  have hem:(srt rs)[j]∈rs:=(srt_perm rs).mem_iff.1 (List.getElem_mem hjk)
  have hro:=hks.ok _ (List.getElem_mem hjk)
  have i1:=length_rmC hro
  have i2:=rm_one (srt rs)[j].2.1
  have i3:(rmC (srt rs)[j].2.1).take 103=rmC (srt rs)[j].2.1:=List.take_of_length_le (by omega)
  have i4:((rmC (srt rs)[j].2.1).take 1).headD .any = .int .u64 ((srt rs)[j].2.1.inst:Nat):=rfl
  have hlt:lastK (srt rs) j<(srt rs)[j].1:=by
   cases j with
   |zero=>have:=h0 _ hem;simp only [lastK];omega
   |succ j =>
    rw [hlk j (by omega)]
    exact List.pairwise_iff_getElem.1 hks.lt j (j+1) (by omega) hjk (by omega)
  have hA:=fun R:St=>ref_at (hf.more R) hr.ln (srt rs)[j].1
  have hsame:=fun R:St=>ref_same_rm (S:=S++R) (by simp;omega) hro (hks.lg _ (List.getElem_mem hjk))
  have hfind:=fun R:St=>realm_find (hz.rms.more R) hr hem
  have hj1:=hlk j hjk
  simp only [hst j hjk]
  generalize ((srt rs).take j).map (fun e:Int × Rm × Nat=>ABox.cells (rmC e.2.1) 37)=K at *
  have hle:¬ (srt rs)[j].1≤lastK (srt rs) j:=by omega
  obtain ⟨p,hp⟩ : ∃ p,at? rs (srt rs)[j].1=some p:=by
   cases hc:at? rs (srt rs)[j].1 with
   |some p=>exact ⟨p,rfl⟩
   |none=>obtain ⟨i,hi,he⟩:=List.getElem_of_mem hem;exact absurd (by rw [he]) (at_none hc (List.getElem?_eq_getElem hi))
  obtain ⟨e,he,he1,_⟩:=at_some hp
  have hee:e=(srt rs)[j]:=inj_key hr.bo (List.mem_of_getElem? he) hem he1
  subst hee
  have hpl:p<rs.length:=(List.getElem?_eq_some_iff.1 he).1
  have hai:atI rs (srt rs)[j].1=(p:Nat):=by unfold atI;rw [hp]
  rw [hai] at hA
  obtain ⟨hall,hrow⟩:=hf.row (fun h=>by rw [h] at hpl;cases hpl)
  have hy:=hf.bx
  rw [hall] at hy
  have g1:((rowC rs).drop (p*104+1)).take 103=rmC (srt rs)[j].2.1:=by
   rw [rowC_get hf.ok he (off:=1) (n:=103) (by decide)]
   exact i3
  have g2:p*104+104≤(rowC rs).length:=by rw [length_rowC hf.ok];omega
  have hyl:=hf.lt
  have hjb:((j:Nat):Int)<1000000:=by have:=hr.ln;omega
  have hbl:=(List.getElem?_eq_some_iff.1 hrow).1
  have hpn:¬ ((p:Nat):Int)<0:=by omega
  have F:=pk12 @i1 @i2 @i3 @i4 @o_put0 @hKl @hle @hy @hrow @g1 @g2 (pk2 @hpl @hpn)
  refine nS F ?_
  refine st F ?_
  refine ⟨rfl,ev F,?_⟩
  refine nS F ?_
  refine st3 F hA hsame hfind ?_
  have hc:((j+1:Nat):Int)=(j:Int)+1:=by omega
  simp only [hj1,hc]
  exact ⟨ev F,rEnd_n rfl (ev F)⟩
 ·have hKl:(((srt rs).take (srt rs).length).map fun e:Int × Rm × Nat=>ABox.cells (rmC e.2.1) 37).length=rs.length:=by simp [hls]
  generalize ((srt rs).take (srt rs).length).map (fun e:Int × Rm × Nat=>ABox.cells (rmC e.2.1) 37)=K at *
  generalize lastK (srt rs) (srt rs).length=lk at *
  rw [hls]
  have hy:=hf.bx
  have hyl:=hf.lt
  have hq:=hf.orc.bx
  unfold roC at hq
  have hql:=hf.orc.lt.1
  have hO:=hz.rms.bx
  have hex:∀ R:St,∃ (v:AVal) (J:St),ACall cx 57 [.ptr o 0] (S++R) v (S++R++J)∧ACall cx 56 [v,.sl 67 L.isEmpty (gls itC L) (.own lq)] (S++R++J) (.bool true) (S++R++J):=fun R=>by
   by_cases hL:L=[]
   ·subst hL
    exact ⟨.sl 67 true [] .any,[],by rw [List.append_nil];exact log0 (orcG_of (hz.orc.more R) hnd hdq hll),sameLog0 _ _ _ _ _ _⟩
   ·have hp:0<L.length:=List.length_pos_iff.2 hL
    exact ⟨.ms (S++R).length 67 L.length,[.row (itR L) 114],(orcG_of (hz.orc.more R) hnd hdq hll).log hda hp,ref_SameLog (by rw [List.getElem?_append_right (Nat.le_refl _),Nat.sub_self];rfl) hf.orc.wf (fun x hx=>(hda x hx).2) hll _ _⟩
  obtain ⟨R0,hR0⟩ : ∃ R0:St,R0=(.cells [.ptr o 0,.ptr x 0,.ptr y 0] 28 :: .cells [.bool false] 4 :: .mpx (rmX (srt rs)) rs.length :: .cells [.map (S.length+2)] 88 :: .cells [.int .i64 rs.length] 3 :: .cells [.int .i64 lk] 3::L0 :: .cells [.map (S.length+2)] 88::K):=⟨_,rfl⟩
  obtain ⟨v,J,hLog,hSL⟩:=hex R0
  have j1:=fun n r=>o_drop length_zq n r
  have hrn:=hr.ln
  have F:=pk3 @hy @hq @hKl
  refine st F ?_
  refine nS F ?_
  have hB:∀ e∈[((some 62:Option Nat),S.length+4),(some 64,S.length),(some 67,y),(some 72,S.length),(some 75,S.length),(some 78,y),(some 81,q)],e.2<(S++R0).length:=fun e he=>by
   rw [hR0]
   simp only [List.mem_cons,List.not_mem_nil,or_false] at he
   rcases he with rfl|rfl|rfl|rfl|rfl|rfl|rfl<;>simp only [List.length_append,List.length_cons]<;>omega
  subst hR0
  by_cases hn:rs=[]
  ·obtain ⟨z,hall⟩:=hf.nil hn
   subst hall
   have hrl:(((rs.length:Nat):Int)=0)=True:=eq_true (by simp [hn])
   refine aC_regB (U:=[(some 75,some 73),(some 78,some 73),(some 81,some 73)]) rfl [(some 62,S.length+4),(some 64,S.length),(some 67,y),(some 72,S.length),(some 75,S.length),(some 78,y),(some 81,q)] ?_
   have F:=pk6 @hy @hq @hKl @j1 length_zq hrl
   refine sb F ?_
   refine ba F hLog ?_ (hk:=fun e he _=>List.getElem?_append_left (hB e he))
   refine sb1 F hSL ?_
   refine st F ?_
   simp (disch:=first|omega|(simp only [go_sem];omega)) only [go_sem,seval]
   exact ⟨_,rfl⟩
  ·obtain ⟨hall,hrow⟩:=hf.row hn
   subst hall
   refine aC_regB (U:=[(some 75,some 73),(some 78,some 73),(some 81,some 73)]) rfl [(some 62,S.length+4),(some 64,S.length),(some 67,y),(some 72,S.length),(some 75,S.length),(some 78,y),(some 81,q)] ?_
   have F:=pk5 @hy @hq @hKl @j1 length_zq
   refine sb F ?_
   refine ba F hLog ?_ (hk:=fun e he _=>List.getElem?_append_left (hB e he))
   refine sb1 F hSL ?_
   refine st F ?_
   simp (disch:=first|omega|(simp only [go_sem];omega)) only [go_sem,seval]
   exact ⟨_,rfl⟩
end
end Go.Am
end
section
namespace Go.Am
open Go Go.Proofs
set_option maxHeartbeats 8000000
set_option maxRecDepth 100000
section
attribute [local irreducible] aC aL thenQ blockQ scopeQ ALoop AWp
variable {S:St}
theorem okc_ms (i s n:Nat):(AVal.ms i s n).okc↔True:=okc_one rfl rfl
attribute [go_sem] okc_ms
def rdR (x:List Rcd):List AVal:=(x.map rdC).flatten
def rmW (r:Rm) (v:AVal):List AVal:=.int .u64 r.inst :: .int .i64 r.st :: .int .i64 r.root :: .int .u64 r.nodes::(bl r.meas++(v::(bl r.key++(.int .u64 r.ctr::(bl r.tree++[.int .i64 r.recs])))))
theorem rmC_W (r:Rm):rmC r=rmW r (.sl 172 r.nl (gls rdC r.log) .any):=rfl
theorem length_rmW {r:Rm} (h:r.Ok) (v:AVal):(rmW r v).length=103:=by simp [rmW,h.m,h.k,h.t]
theorem rmW_one (r:Rm) {v:AVal} (hv:v.one=true):∀ c∈rmW r v,c.one=true:=fun c hc=>by
 unfold rmW at hc
 simp only [List.mem_cons,List.mem_append,List.not_mem_nil,or_false] at hc
 rcases hc with rfl|rfl|rfl|rfl|hc|rfl|hc|rfl|hc|rfl
 ·rfl
 ·rfl
 ·rfl
 ·rfl
 ·exact bl_one _ _ hc
 ·exact hv
 ·exact bl_one _ _ hc
 ·rfl
 ·exact bl_one _ _ hc
 ·rfl
theorem clone_recW (tg:Tag) (nl:Bool) (x:List Rcd) (hn:nl=true→x=[]) (h0:0<x.length) (hl:x.length≤1000000):ACall cx 63 [.sl 172 nl (gls rdC x) tg] S (.ms S.length 172 x.length) (S++[.row (rdR x) 57]):=by
 have:nl=false:=by cases nl with|false=>rfl|true=>rw [hn rfl] at h0;cases h0
 subst this
 refine oA lq63 ?_
 have F:=pk2 @length_gls True.intro
 have hsrc:srcC S 172 (.sl 172 false (gls rdC x) tg)=(x.length,rdR x):=by simp only [srcC,length_gls,flatC_gls];rfl
 dsimp only [frame0,List.zipIdx,List.map,Nat.reduceAdd]
 repeat (first|refine zQ F ?_ ?_ hsrc|refine one F ?_)
 ·exact cl F
 ·exact ⟨.inl rfl,h0,by unfold maxLen;omega,by show x.length*256≤_;omega⟩
theorem realm_ownW (r:Rm) (h:r.Ok) (h0:0<r.log.length) (hl:r.log.length≤1000000) :
  ACall cx 28 [.agg (rmC r)] S (.agg (rmW r (.ms (S.length+2) 172 r.log.length))) (S++[.cells (rmW r (.ms (S.length+2) 172 r.log.length)) 37,.cells (rmW r (.ms (S.length+2) 172 r.log.length)) 37,.row (rdR r.log) 57]):=by
 have hc:=fun R:St=>clone_recW (S:=S++R) .any r.nl r.log h.n h0 hl
 have j1:=fun n q=>o_drop h.m n q
 have j3:=fun n q cs hh=>o_put h.m n q cs hh
 have j4:∀ v,(rmW r v).take 103=rmW r v:=fun v=>List.take_of_length_le (by rw [length_rmW h];exact Nat.le_refl _)
 have j5:=fun v=>length_rmW h v
 have h1:=h.m
 have h2:=h.k
 have h3:=h.t
 rw [rmC_W]
 have e:=rmC_W r
 refine oW lq28 (bodyOk_of Tryz.func28 (by kernel_rfl)) ?_
 have i2:∀ v:AVal,v.one=true→((∀ c∈rmW r v,c.one=true)=True):=fun v hv=>eq_true (rmW_one r hv)
 have k1:=j5 (.ms (S.length+2) 172 r.log.length)
 have k2:=j4 (.ms (S.length+2) 172 r.log.length)
 have k3:(∀ c∈rmW r (.ms (S.length+2) 172 r.log.length),c.one=true)=True:=i2 _ rfl
 have k4:=rmW_one r (v:=.ms (S.length+2) 172 r.log.length) rfl
 unfold rmW at *
 have F:=pk8 @j1 @j3 @j4 @j5 @h1 @h2 @h3 @o_put0
 refine st1 F hc ?_
 generalize hW:(AVal.int .u64 r.inst :: .int .i64 r.st :: .int .i64 r.root :: .int .u64 r.nodes::(bl r.meas++(.ms (S.length+2) 172 r.log.length::(bl r.key++(.int .u64 r.ctr::(bl r.tree++[.int .i64 r.recs]))))))=W at *
 have F:=pk4 @k1 @k2 k3 @o_put0
 refine st F ?_
 exact cl F
theorem rdR_len {x:List Rcd} (h:∀ r∈x,r.Ok):∀ y∈x.map rdC,y.length=172:=fun y hy=>by
 obtain ⟨r,hr,rfl⟩:=List.mem_map.1 hy
 exact length_rdC (h r hr)
theorem length_rdR {x:List Rcd} (h:∀ r∈x,r.Ok):(rdR x).length=x.length*172:=by
 unfold rdR
 rw [flat_len (rdR_len h),List.length_map]
theorem rdR_get {x:List Rcd} (h:∀ r∈x,r.Ok) {j:Nat} (hj:j<x.length) {off n:Nat} (ho:off+n≤172):((rdR x).drop (j*172+off)).take n=((rdC x[j]).drop off).take n :=
 flat_take (rdR_len h) (by simp [hj]) ho
theorem rdR_all {x:List Rcd} (h:∀ r∈x,r.Ok) {j:Nat} (hj:j<x.length):((rdR x).drop (j*172)).take 172=rdC x[j]:=by
 have:=rdR_get h hj (off:=0) (n:=172) (by decide)
 rw [Nat.add_zero] at this
 rw [this,List.drop_zero]
 exact List.take_of_length_le (by rw [length_rdC (h _ (List.getElem_mem hj))];exact Nat.le_refl _)
theorem sameLogW {i k:Nat} {x:List Rcd} (h:∀ r∈x,r.Ok) (hl:x.length≤1000000) (hi:S[i]? = some (.row (rdR x) 57)) (hk:S[k]? = some (.row (rdR x) 57)) :
  ACall cx 19 [.ms i 172 x.length,.ms k 172 x.length] S (.bool true) S:=by
 refine oA lq19 ?_
 have F:=pk3 @hi @hk True.intro
 refine st F ?_
 refine loop_rule (cxOk.wp _ _) (σ:=Nat) (fun j=>[(5,.int .i64 j),(1,.ms k 172 x.length),(0,.ms i 172 x.length)]) (fun _=>S) (fun j=>x.length-j) (fun j=>j≤x.length) 0 (GStep.refl _ _) ⟨Nat.zero_le _,Sub.of_all (by simp [Fr.get]),rfl⟩ fun j hj=>?_
 rcases Nat.lt_or_ge j x.length with hjl|hjl
 ·have hjl':((j:Nat):Int)<(x.length:Int):=by omega
  have g1:=rdR_all h hjl
  have g3:=length_rdR h
  have g4:j*172+172≤(rdR x).length:=by rw [g3];omega
  have g5:=length_rdC (h _ (List.getElem_mem hjl))
  have F:=pk7 @hi @hk @hjl' @hjl @g1 @g4 @g5
  refine st F ?_
  refine zT F ?_ ?_
  rotate_left
  ·exact ⟨by kernel_rfl,by kernel_rfl,skbs_rd (h _ (List.getElem_mem hjl)),skbs_rd (h _ (List.getElem_mem hjl))⟩
  refine st F ?_
  exact ⟨j+1,hjl,Sub.of_all (by simp [Fr.get]),rfl,by omega⟩
 ·have:j=x.length:=by omega
  subst this
  exact wk True.intro
section
variable {r:Rm}
theorem rw_1 (v:AVal):(rmW r v).take 1=[.int .u64 r.inst]:=rfl
theorem rw_2 (v:AVal):((rmW r v).drop 1).take 1=[.int .i64 r.st]:=rfl
theorem rw_3 (v:AVal):((rmW r v).drop 2).take 1=[.int .i64 r.root]:=rfl
theorem rw_4 (v:AVal):((rmW r v).drop 3).take 1=[.int .u64 r.nodes]:=rfl
theorem rw_5 (h:r.Ok) (v:AVal):((rmW r v).drop 4).take 32=bl r.meas:=List.take_left' (by simp [h.m])
theorem rw_6 (h:r.Ok) (v:AVal):((rmW r v).drop 36).take 1=[v]:=by
 show ((bl r.meas++_).drop (0+32)).take 1=_
 rw [o_drop h.m];rfl
theorem rw_7 (h:r.Ok) (v:AVal):((rmW r v).drop 37).take 32=bl r.key:=by
 show ((bl r.meas++_).drop (1+32)).take 32=_
 rw [o_drop h.m];exact List.take_left' (by simp [h.k])
theorem rw_8 (h:r.Ok) (v:AVal):((rmW r v).drop 69).take 1=[.int .u64 r.ctr]:=by
 show ((bl r.meas++_).drop (33+32)).take 1=_
 rw [o_drop h.m]
 show ((bl r.key++_).drop (0+32)).take 1=_
 rw [o_drop h.k];rfl
theorem rw_9 (h:r.Ok) (v:AVal):((rmW r v).drop 70).take 32=bl r.tree:=by
 show ((bl r.meas++_).drop (34+32)).take 32=_
 rw [o_drop h.m]
 show ((bl r.key++_).drop (1+32)).take 32=_
 rw [o_drop h.k];exact List.take_left' (by simp [h.t])
theorem rw_10 (h:r.Ok) (v:AVal):((rmW r v).drop 102).take 1=[.int .i64 r.recs]:=by
 show ((bl r.meas++_).drop (66+32)).take 1=_
 rw [o_drop h.m]
 show ((bl r.key++_).drop (33+32)).take 1=_
 rw [o_drop h.k]
 show ((bl r.tree++_).drop (0+32)).take 1=_
 rw [o_drop h.t];rfl
theorem sameW {i k:Nat} (h:r.Ok) (hl:r.log.length≤1000000) (hi:S[i]? = some (.row (rdR r.log) 57)) (hk:S[k]? = some (.row (rdR r.log) 57)) :
  ACall cx 18 [.agg (rmW r (.ms i 172 r.log.length)),.agg (rmW r (.ms k 172 r.log.length))] S (.bool true) S:=by
 have hil:=(List.getElem?_eq_some_iff.1 hi).1
 have hkl:=(List.getElem?_eq_some_iff.1 hk).1
 refine ACallP.same cxG (oQ lq18 ?_) (by omega) rfl
 have f5:=rw_5 h
 have f6:=rw_6 h
 have f7:=rw_7 h
 have f8:=rw_8 h
 have f9:=rw_9 h
 have f10:=rw_10 h
 have hone:=fun v hv=>rmW_one r (v:=v) hv
 have hrl:=length_rmW h
 have hL:=fun R:St=>sameLogW (S:=S++R) h.l hl (i:=i) (k:=k) (by rw [List.getElem?_append_left hil];exact hi) (by rw [List.getElem?_append_left hkl];exact hk)
 have m1:(bl r.meas).length=32:=by rw [length_bl];exact h.m
 have m2:(bl r.key).length=32:=by rw [length_bl];exact h.k
 have m3:(bl r.tree).length=32:=by rw [length_bl];exact h.t
 have s1:skbs (bl r.meas) (bl (List.replicate 32 0))=true:=skbs_by (by simp [h.m])
 have s2:skbs (bl r.key) (bl (List.replicate 32 0))=true:=skbs_by (by simp [h.k])
 have s3:skbs (bl r.tree) (bl (List.replicate 32 0))=true:=skbs_by (by simp [h.t])
 try dsimp only [List.append,List.map,liteO,Option.map]
 have F:=(pk12 (@rw_1 r) (@rw_2 r) (@rw_3 r) (@rw_4 r) @f5 @f6 @f7 @f8 @f9 @f10 @hrl (pk3 @m1 @m2 @m3))
 repeat' (first|refine st1 F hL ?_|(refine cp F ?_ ?_<;>intro h)|refine zT F ?_ ?_)
 all_goals try exact cl F
 all_goals try exact hone _ rfl
 all_goals try exact ⟨by kernel_rfl,by kernel_rfl,s1,s1⟩
 all_goals try exact ⟨by kernel_rfl,by kernel_rfl,s2,s2⟩
 all_goals try exact ⟨by kernel_rfl,by kernel_rfl,s3,s3⟩
 simp (disch:=first|omega|(simp only [go_sem];omega)) only [go_sem,seval]
 exact ⟨_,rfl⟩
end
end
end Go.Am
end
section
namespace Go.Am
open Go Go.Proofs
set_option maxHeartbeats 8000000
set_option maxRecDepth 100000
section
attribute [local irreducible] aC aL thenQ blockQ scopeQ ALoop AWp
variable {S:St}
theorem do_getW {i j:Nat} {r:Rm} {z:List AVal} (hi:S[i]? = some (.cells (rmC r) 37)) (hj:S[j]? = some (.cells z 37)) (hij:i≠j) (hz:z.length=103) (h:r.Ok) (h0:0<r.log.length) (hl:r.log.length≤1000000) :
  ACall cx 27 [.ptr i 0,.ptr j 0] S (.int .i64 0) (S.set j (.cells (rmW r (.ms (S.length+2) 172 r.log.length)) 37)++[.cells (rmW r (.ms (S.length+2) 172 r.log.length)) 37,.cells (rmW r (.ms (S.length+2) 172 r.log.length)) 37,.row (rdR r.log) 57]):=by
 have hO:=realm_ownW (S:=S) r h h0 hl
 have hil:=(List.getElem?_eq_some_iff.1 hi).1
 have hjl:=(List.getElem?_eq_some_iff.1 hj).1
 have i1:=length_rmC h
 have i2:=rm_one r
 have i3:(rmC r).take 103=rmC r:=List.take_of_length_le (by omega)
 have k1:=length_rmW h (.ms (S.length+2) 172 r.log.length)
 have k2:(rmW r (.ms (S.length+2) 172 r.log.length)).take 103=rmW r (.ms (S.length+2) 172 r.log.length):=List.take_of_length_le (by omega)
 have k3:(∀ c∈rmW r (.ms (S.length+2) 172 r.log.length),c.one=true)=True:=eq_true (rmW_one r rfl)
 generalize rmW r (.ms (S.length+2) 172 r.log.length)=W at *
 refine oA lq27 ?_
 have F:=pk10 @hi @hj @hz @i1 @i3 @k1 @k2 k3 @o_put0 hij
 refine st1 F hO ?_
 exact cl F
theorem at_getW {x a o last:Nat} {rs:Rs} {c:Nat} (h:RmsP S x a o last rs c) {rd:Int} {p:Nat} {e:Int × Rm × Nat} (hp:at? rs rd=some p) (he:rs[p]? = some e) (h0:0<e.2.1.log.length) (hll:e.2.1.log.length≤1000000) {j:Nat} {z:List AVal} (hj:S[j]? = some (.cells z 37)) (hz:z.length=103) (hx:x≠j) (ha:a≠j) :
  ACall cx 26 [.ptr x 0,.int .i64 rd,.fn (.func 27) [] [.ptr j 0]] S (.int .i64 0) (S.set j (.cells (rmW e.2.1 (.ms (S.length+3) 172 e.2.1.log.length)) 37)++[.cells (rmC e.2.1) 37,.cells (rmW e.2.1 (.ms (S.length+3) 172 e.2.1.log.length)) 37,.cells (rmW e.2.1 (.ms (S.length+3) 172 e.2.1.log.length)) 37,.row (rdR e.2.1.log) 57]):=by
 have hok:=h.ok e (List.mem_of_getElem? he)
 have hjl:=(List.getElem?_eq_some_iff.1 hj).1
 have hD:=do_getW (S:=S++[.cells (rmC e.2.1) 37]) (i:=S.length) (j:=j) (r:=e.2.1) (z:=z) (by simp) (by rw [List.getElem?_append_left hjl];exact hj) (by omega) hz hok h0 hll
 rw [List.set_append_left _ _ hjl,show (S++[ABox.cells (rmC e.2.1) 37]).length+2=S.length+3 by simp,List.append_assoc] at hD
 have hT:=realm_there h
 have hS:=h.bx
 have hM:=h.mp
 have ho:=h.lt
 have hL:=fun z=>look_rm hp he z
 have hF:=(findK_rm rs rd).trans hp
 have hQ:=qkeys_rm rs rd
 have hU:=fun c=>set_rm hp he e.2.1 c
 rw [rs_same he] at hU
 have i1:=length_rmC hok
 have i2:=rm_one e.2.1
 have i6:(rmC e.2.1).take 103=rmC e.2.1:=List.take_of_length_le (by omega)
 have k3:(∀ c∈rmC e.2.1,c.one=true)=True:=eq_true i2
 have hsa:(S.set j (.cells (rmW e.2.1 (.ms (S.length+3) 172 e.2.1.log.length)) 37)).set a (.mp (rmE rs) c)=S.set j (.cells (rmW e.2.1 (.ms (S.length+3) 172 e.2.1.log.length)) 37):=set_same_S (by rw [List.getElem?_set_ne (Ne.symm ha)];exact hM)
 generalize rmW e.2.1 (.ms (S.length+3) 172 e.2.1.log.length)=W at *
 refine oA lq26 ?_
 have F:=pk12 @hS @hM @hL @hF @hU @i1 @i6 k3 @o_put0 hx ha (pk2 hsa hz)
 repeat' (first|refine st2 F hT hD ?_|refine mLT F ?_ ?_|refine mUT F ?_ ?_)
 all_goals try exact cl F
 all_goals try exact hQ
theorem realm_getW {x a o last:Nat} {rs:Rs} {c:Nat} (h:RmsP S x a o last rs c) {rd:Int} {p:Nat} {e:Int × Rm × Nat} (hp:at? rs rd=some p) (he:rs[p]? = some e) (h0:0<e.2.1.log.length) (hll:e.2.1.log.length≤1000000) :
  ACall cx 8 [.ptr x 0,.int .i64 rd] S (.tup [.agg (rmW e.2.1 (.ms (S.length+4) 172 e.2.1.log.length)),.int .i64 0]) (S++[.cells (rmW e.2.1 (.ms (S.length+4) 172 e.2.1.log.length)) 37,.cells (rmC e.2.1) 37,.cells (rmW e.2.1 (.ms (S.length+4) 172 e.2.1.log.length)) 37,.cells (rmW e.2.1 (.ms (S.length+4) 172 e.2.1.log.length)) 37,.row (rdR e.2.1.log) 57]):=by
 have hok:=h.ok e (List.mem_of_getElem? he)
 have hlt:=h.lt
 have hat:=at_getW (h.more [.cells zRmC 37]) hp he h0 hll (j:=S.length) (z:=zRmC) (by simp) length_zRmC (by omega) (by omega)
 rw [show (S++[ABox.cells zRmC 37]).length+3=S.length+4 by simp,List.set_append_right _ _ (Nat.le_refl _),Nat.sub_self,List.append_assoc] at hat
 have k1:=length_rmW hok (.ms (S.length+4) 172 e.2.1.log.length)
 have k2:(rmW e.2.1 (.ms (S.length+4) 172 e.2.1.log.length)).take 103=rmW e.2.1 (.ms (S.length+4) 172 e.2.1.log.length):=List.take_of_length_le (by omega)
 have k3:(∀ c∈rmW e.2.1 (.ms (S.length+4) 172 e.2.1.log.length),c.one=true)=True:=eq_true (rmW_one e.2.1 rfl)
 unfold zRmC at hat
 generalize rmW e.2.1 (.ms (S.length+4) 172 e.2.1.log.length)=W at *
 generalize rmC e.2.1=R at *
 refine oA lq8 ?_
 have F:=pk5 @k1 @k2 k3 @o_put0 True.intro
 repeat' (first|refine st1 F hat ?_)
 all_goals try exact cl F
end
end Go.Am
end
section
namespace Go.Am
open Go Go.Proofs
set_option maxHeartbeats 8000000
set_option maxRecDepth 100000
section
attribute [local irreducible] aC aL thenQ blockQ scopeQ ALoop AWp
variable {S:St}
def bump (r:Rcd):Rcd:={ r with pg:=IntKind.i64.wrap (r.pg+1) }
theorem wrap_ne (n:Int):IntKind.i64.wrap (n+1)≠n:=by
 intro e
 have h:IntKind.i64.wrap (n+1)=n:=e
 simp only [IntKind.wrap] at h
 have e1:IntKind.i64.bits=64:=rfl
 have e2:IntKind.i64.signed=true:=rfl
 simp only [e1,e2] at h
 omega
theorem bump_ok {r:Rcd} (h:r.Ok):(bump r).Ok:=⟨h.v,h.d,h.p⟩
theorem bump_ne (r:Rcd):rdC r≠rdC (bump r):=by
 intro e
 unfold rdC bump at e
 simp only [List.cons.injEq,true_and,List.append_cancel_left_eq,AVal.int.injEq] at e
 exact wrap_ne r.pg e.1.symm
theorem sameLogD {i k:Nat} {x y:List Rcd} (hx:∀ r∈x,r.Ok) (hy:∀ r∈y,r.Ok) (hl:x.length≤1000000) (hxy:x.length=y.length) (h0:0<x.length) (hd:rdC x[0]≠rdC (y[0]'(hxy▸h0))) (hi:S[i]? = some (.row (rdR x) 57)) (hk:S[k]? = some (.row (rdR y) 57)) :
  ACall cx 19 [.ms i 172 x.length,.ms k 172 x.length] S (.bool false) S:=by
 refine oA lq19 ?_
 have F:=pk3 @hi @hk True.intro
 refine st F ?_
 have h0':(0:Int)<(x.length:Int):=by omega
 have hy0:0<y.length:=by omega
 refine loop_rule (cxOk.wp _ _) (σ:=Unit) (fun _=>[(5,.int .i64 0),(1,.ms k 172 x.length),(0,.ms i 172 x.length)]) (fun _=>S) (fun _=>0) (fun _=>True) () (GStep.refl _ _) ⟨True.intro,Sub.of_all (by simp [Fr.get]),rfl⟩ fun _ _=>?_
 have g1:=rdR_all hx h0
 have g2:=rdR_all hy hy0
 rw [Nat.zero_mul,List.drop_zero] at g1 g2
 have g3:=length_rdR hx
 have g3':=length_rdR hy
 have g4:172≤(rdR x).length:=by rw [g3];omega
 have g4':172≤(rdR y).length:=by rw [g3'];omega
 have g5:=length_rdC (hx _ (List.getElem_mem h0))
 have g5':=length_rdC (hy _ (List.getElem_mem hy0))
 have hd':(rdC x[0]=rdC y[0])=False:=eq_false hd
 have F:=pk11 @hi @hk @h0' @h0 @g1 @g2 @g4 @g4' @g5 @g5' hd'
 refine st F ?_
 refine zT F ?_ ?_
 rotate_left
 ·exact ⟨by kernel_rfl,by kernel_rfl,skbs_rd (hx _ (List.getElem_mem h0)),skbs_rd (hy _ (List.getElem_mem hy0))⟩
 exact wk F
end
end Go.Am
end
section
namespace Go.Am
open Go Go.Proofs
set_option maxHeartbeats 8000000
set_option maxRecDepth 100000
section
variable {S:St} {o k:Nat} {m:List UInt8} {nd:Bool} {dr:List (List UInt8)} {L:List It} {nl:Bool} {tg:Tag}
theorem OrcG.ocS (h:OrcG S o k m nd dr L nl tg):OrcG (S++Go.Am.ocS S m nd dr L nl) (S.length+2) (S.length+1) m nd dr L nl .any :=
 ⟨by rw [List.getElem?_append_right (by omega),show S.length+2-S.length=2 by omega];rfl,by rw [List.getElem?_append_right (by omega),show S.length+1-S.length=1 by omega];rfl,h.m32,h.dn,h.drl,h.wf,h.dq,h.ln,h.ll⟩
theorem mx_rs:∀ {es':List (AVal × AVal × Nat)} {ks:Rs},(∀ e∈es',(e.1,e.2.1)∈rmX ks)→∃ rs':Rs,es'=rmE rs'∧(∀ e∈rs',∃ e0∈ks,e.1=e0.1∧e.2.1=e0.2.1)
 |[],_,_=>⟨[],rfl,fun _ h=>by cases h⟩
 |x::es',ks,h=>by
  obtain ⟨rs',h1,h2⟩:=mx_rs (es':=es') fun e he=>h e (List.mem_cons_of_mem _ he)
  obtain ⟨p,hp,he⟩:=List.mem_map.1 (h x (List.mem_cons_self ..))
  obtain ⟨a,b,c⟩:=x
  injection he with e1 e2
  simp only at e1 e2
  subst h1
  refine ⟨(p.1,p.2.1,c)::rs',?_,fun e he=>?_⟩
  ·show _=((.int .i64 p.1,.agg (rmC p.2.1),c):AVal × AVal × Nat)::rmE rs'
   rw [← e1,← e2]
  ·rcases List.mem_cons.1 he with rfl|he
   ·exact ⟨p,hp,rfl,rfl⟩
   ·exact h2 e he
end
end Go.Am
end
section
namespace Go.Am
open Go Go.Proofs
set_option maxHeartbeats 8000000
set_option maxRecDepth 100000
section
attribute [local irreducible] aC aL thenQ blockQ scopeQ ALoop AWp
variable {S:St}
theorem there_nil:ACall cx 50 [.nilp] S (.bool false) S:=oA lq50 (wk True.intro)
theorem copy_nil:ACall cx 16 [.nilp] S .nilp S:=oA lq16 (wk1 True.intro (there_nil (S:=S)))
theorem new_nil:ACall cx 25 [.nilp] S .nilp S:=oA lq25 (wk1 True.intro (copy_nil (S:=S)))
theorem realm_copy_nil {x a o last:Nat} {rs:Rs} {c:Nat} (h:RmsP S x a o last rs c):ACall cx 15 [.ptr x 0,.nilp] S .nilp S:=by
 have hT:=realm_there h
 exact oA lq15 (wk2 True.intro (new_nil (S:=S)) hT)
end
end Go.Am
end
