/- The reference's realms at any state: a measurement behind data, behind a vCPU. -/
import Derived.Test.YteemcehaekffeaaGreatO20
import Derived.Test.YteemcehaekffeaaGreatAmPost
set_option linter.unusedVariables false
set_option linter.unusedSimpArgs false
namespace Go.Am
open Go Go.Proofs
set_option maxHeartbeats 8000000
set_option maxRecDepth 100000
section
attribute [local irreducible] aC aL thenQ blockQ scopeQ ALoop AWp
section
variable {S:St} {y q l b sd:Nat} {L:List It} {last:Nat} {rs:Rs} {all:AVal}
theorem isEmpty_bl_f {l:List UInt8} {n:Nat} (h:l.length=n+1):(bl l).isEmpty=false:=by
 cases l
 ·simp at h
 ·rfl
theorem ref_meas2 (h:RefP S y q l b sd L last rs all) (hl:L.length≤900000) (hLd:LD L) {m:List UInt8} (hm:m.length=32) {r:Rcd} (hr:r.Ok) (hk:r.k=2) {pg:Nat} (hp:r.pg=(pg:Int)) (hpl:pg<128) :
  ACall cx 12 [.ptr y 0,.agg (bl m),.agg (rdC r)] S (.agg (bl (askD [] L (dgQ 2 (m++(putl pg 8++r.dt)))))) (raskS S q l sd L (dgQ 2 (m++(putl pg 8++r.dt)))):=by
 have hx:=length_raskD h.orc (dgQ 2 (m++(putl pg 8++r.dt)))
 have hB:=h.bx
 have hy:=h.lt
 have hqlt:=h.orc.lt
 have hdl:(m++(putl pg 8++r.dt)).length=168:=by simp [hm,putl_length,hr.d]
 have hw:ACall cx 12 [.ptr y 0,.agg (bl m),.agg (rdC r)] S (.agg (bl (askD [] L (dgQ 2 (m++(putl pg 8++r.dt)))))) (raskS S q l sd L (dgQ 2 (m++(putl pg 8++r.dt)))++[.cells (bl m) 34,.cells (rdC r) 57,.cells (bl (askD [] L (dgQ 2 (m++(putl pg 8++r.dt))))) 34,.grow 168 1 5]):=by
  have hrl:=length_rdC hr
  have hk0:(rdC r).take 1=[.int .i64 2]:=by unfold rdC;rw [hk];rfl
  have hpgk:((rdC r).drop 33).take 1=[.int .i64 pg]:=by rw [show 33=0+33 from rfl,rd_get r hr.v,List.drop_zero,hp];rfl
  have hone:=rd_one r
  have hrt:(rdC r).take 172=rdC r:=List.take_of_length_le (by omega)
  have hmt:(bl m).take 32=bl m:=List.take_of_length_le (by rw [length_bl];omega)
  have hml:(bl m).length=32:=by rw [length_bl];exact hm
  have hd:=rd_d r hr.v hr.d
  have hle:=ref_le pg (by omega)
  have hw1:IntKind.u64.wrap ((pg:Nat):Int)=((pg:Nat):Int):=by rw [IntKind.wrap_u64];omega
  have hw2:((pg:Nat):Int)%18446744073709551616=((pg:Nat):Int):=by omega
  have hme:=isEmpty_bl_f (n:=31) hm
  have hpl8:=putl_length pg 8
  have hD:∀ R:St,ACall cx 47 [.ptr q 0,.int .i64 2,.sl 1 false (bl (m++(putl pg 8++r.dt))) .any] (S++R) (.agg (bl (askD [] L (dgQ 2 (m++(putl pg 8++r.dt)))))) (raskS S q l sd L (dgQ 2 (m++(putl pg 8++r.dt)))++R):=fun R=>by
   rw [← raskS_app h.orc]
   exact ref_digest (h.orc.more _) hl hLd 2 _ (by rw [hdl];decide) (by rw [hdl];decide) (.inl ⟨false,rfl⟩) (fun i off n c' e=>by cases e)
  have hlen:=length_raskS (S:=S) (q:=q) (l:=l) (sd:=sd) (L:=L) (dgQ 2 (m++(putl pg 8++r.dt)))
  have hdt:=hr.d
  have hdone:∀ c∈bl r.dt,c.one=true:=fun c hc=>bl_one _ c hc
  generalize raskS S q l sd L (dgQ 2 (m++(putl pg 8++r.dt)))=S1 at *
  generalize askD [] L (dgQ 2 (m++(putl pg 8++r.dt)))=x at *
  have t1:(bl x).take 32=bl x:=List.take_of_length_le (by rw [length_bl];omega)
  have t2:x.take 32=x:=List.take_of_length_le (by omega)
  rw [← append_bl,← append_bl] at hD
  generalize hW:putl pg 8=W at *
  generalize r.dt=dt at *
  generalize rdC r=R at *
  refine acall_fnK cxOk Tryz.func12 (fun _=>false) (fe12.q) (by kernel_rfl) (by dsimp only [Tryz.f12,go_sem,seval,liteO,Option.map,List.map];exact .mk _) ?_
  dsimp only [Tryz.f12,frame0,List.zipIdx,List.map,Nat.reduceAdd]
  repeat' (first|refine aC_seq ?_|refine aC_reg rfl ?_|refine aC_block ?_|refine thenQ_normal ?_|refine aL_nil ?_|(apply aL_step;(·exact True.intro);(iterate 2 (·simp (disch:=first|omega|(simp only [go_sem];omega)) only [go_sem,seval,hrl,hk0,decide_true,decide_false]<;>with_reducible rfl));(·simp only [go_sem]<;>with_reducible rfl))|(refine aC_condT ?_ ?_;(·simp (disch:=first|omega|(simp only [go_sem];omega)) only [go_sem,seval]))|(refine aC_condF ?_ ?_;(·simp (disch:=first|omega|(simp only [go_sem];omega)) only [go_sem,seval]))|fail)
  refine aC_regB (U:=[(some 25,some 23)]) rfl [(some 25,S.length+1)] ?_
  repeat' (first|refine aLB_nil ?_|(apply aLB_step;(·exact True.intro);(·exact (by intro h;cases h));(·rfl);(·simp (disch:=first|omega|(simp only [go_sem];omega)) only [go_sem,seval]);(·simp (disch:=first|omega|(simp only [go_sem];omega)) only [go_sem,seval,hrl,hpl8,hpgk,hmt,hml,hw1,hme]<;>with_reducible rfl);(·simp only [go_sem]<;>with_reducible rfl);(·(intro b hb;first|(cases hb;done)|(simp (disch:=first|omega|(simp only [go_sem];omega)) only [loadBox,go_sem,seval] at hb;(try injection hb with hb);subst hb;simp))))|(apply aLB_write;(·exact True.intro);(·rfl);(·rfl);(·simp (disch:=first|omega|(simp only [go_sem];omega)) only [go_sem,seval]);(·simp (disch:=first|omega|(simp only [go_sem];omega)) only [go_sem,seval,hpl8,hmt,hml,hme]<;>with_reducible rfl);(·simp only [go_sem]<;>with_reducible rfl);(·first|(simp;done)|(intro e he _;simp only [List.mem_cons,List.not_mem_nil,or_false] at he;(repeat' (obtain he|he:=(he:_∨_)));all_goals (subst he;simp (disch:=first|omega|(simp only [go_sem];omega)) only [go_sem,seval,hrl,hm,hpl8,hpgk,hmt,hml,hw1,hw2,hme,Bool.and_false]))))|(apply aLB_pure cxG (hle);(case hg=>(simp (disch:=first|omega|(simp only [go_sem];omega)) only [go_sem,seval]));(case hx=>(simp (disch:=first|omega|(simp only [go_sem];omega)) only [go_sem,seval]<;>with_reducible rfl));(case ha=>(simp (disch:=first|omega|(simp only [go_sem];omega)) only [go_sem,seval]<;>with_reducible rfl));(case he=>(simp only [go_sem]<;>with_reducible rfl));(case hcl=>(simp));(case hf=>(simp only [go_sem]<;>with_reducible rfl)))|fail)
  repeat' (first|refine aC_seq ?_|refine thenQ_normal ?_|fail)
  refine aC_regB (U:=[(some 32,some 36)]) rfl [(some 32,y)] ?_
  repeat' (first|refine aLB_nil ?_|(apply aLB_step;(·exact True.intro);(·exact (by intro h;cases h));(·rfl);(·simp (disch:=first|omega|(simp only [go_sem];omega)) only [go_sem,seval]);(·simp (disch:=first|omega|(simp only [go_sem];omega)) only [go_sem,seval,hlen,hB,hm,hdt,hpl8,hd,hx,o_put0]<;>with_reducible rfl);(·simp only [go_sem]<;>with_reducible rfl);(·(intro b hb;first|(cases hb;done)|(simp (disch:=first|omega|(simp only [go_sem];omega)) only [loadBox,go_sem,seval] at hb;(try injection hb with hb);subst hb;simp))))|(apply aLB_write;(·exact True.intro);(·rfl);(·rfl);(·simp (disch:=first|omega|(simp only [go_sem];omega)) only [go_sem,seval]);(·simp (disch:=first|omega|(simp only [go_sem];omega)) only [go_sem,seval,hlen,hm,hdt,hpl8,hd,hx,o_put0]<;>with_reducible rfl);(·simp only [go_sem]<;>with_reducible rfl);(·first|(simp;done)|(intro e he _;simp only [List.mem_cons,List.not_mem_nil,or_false] at he;(repeat' (obtain he|he:=(he:_∨_)));all_goals (subst he;simp (disch:=first|omega|(simp only [go_sem];omega)) only [go_sem,seval,hB]))))|(apply aLB_aW (hD _);(·rfl);(iterate 3 (·simp (disch:=first|omega|(simp only [go_sem];omega)) only [go_sem,seval]<;>with_reducible rfl));(·simp only [go_sem]<;>with_reducible rfl);(·simp))|fail)
  repeat' (first|refine aC_ret ?_|refine thenQ_normal ?_|refine thenQ_ret ?_|refine blockQ_ret ?_|fail)
  all_goals try (first|exact True.intro|exact not_false|omega|(simp (disch:=first|omega|(simp only [go_sem];omega)) only [go_sem,seval]<;>omega))
  all_goals try (simp (disch:=first|omega|(simp only [go_sem];omega)) only [go_sem,seval,hlen,hx,t1])
  all_goals try simp
  all_goals try exact ⟨by omega,by rw [hd];exact hdone⟩
  all_goals try exact ⟨by omega,by rw [hmt];exact fun c hc=>bl_one _ c hc⟩
 exact h.orc.keep _ rfl hw (by simp [bel,bels_bl])
theorem ref_meas3 (h:RefP S y q l b sd L last rs all) (hl:L.length≤900000) (hLd:LD L) {m:List UInt8} (hm:m.length=32) {r:Rcd} (hr:r.Ok) (hk:r.k=3) :
  ACall cx 12 [.ptr y 0,.agg (bl m),.agg (rdC r)] S (.agg (bl (askD [] L (dgQ 3 (m++recG r.rp))))) (raskS S q l sd L (dgQ 3 (m++recG r.rp))):=by
 have hx:=length_raskD h.orc (dgQ 3 (m++recG r.rp))
 have hB:=h.bx
 have hy:=h.lt
 have hqlt:=h.orc.lt
 have hgl:=length_recG hr.p
 have hdl:(m++recG r.rp).length=160:=by simp [hm,hgl]
 have hw:ACall cx 12 [.ptr y 0,.agg (bl m),.agg (rdC r)] S (.agg (bl (askD [] L (dgQ 3 (m++recG r.rp))))) (raskS S q l sd L (dgQ 3 (m++recG r.rp))++[.cells (bl m) 34,.cells (rdC r) 57,.cells (bl (askD [] L (dgQ 3 (m++recG r.rp)))) 34,.cells (bl (recG r.rp)) 44,.grow 160 1 5]):=by
  have hrl:=length_rdC hr
  have hpl:=length_rpC hr.p
  have hk0:(rdC r).take 1=[.int .i64 3]:=by unfold rdC;rw [hk];rfl
  have hrp:((rdC r).drop 162).take 10=rpC r.rp:=by rw [show 162=0+162 from rfl,rd_p r hr.v hr.d,List.drop_zero,List.take_of_length_le (by omega)]
  have hone:=rd_one r
  have hrt:(rdC r).take 172=rdC r:=List.take_of_length_le (by omega)
  have hmt:(bl m).take 32=bl m:=List.take_of_length_le (by rw [length_bl];omega)
  have hml:(bl m).length=32:=by rw [length_bl];exact hm
  have hme:=isEmpty_bl_f (n:=31) hm
  have hR:=fun R:St=>ref_recBytes (S:=S++R) (by simp;omega) r.rp hr.p
  have hD:∀ R:St,ACall cx 47 [.ptr q 0,.int .i64 3,.sl 1 false (bl (m++recG r.rp)) .any] (S++R) (.agg (bl (askD [] L (dgQ 3 (m++recG r.rp))))) (raskS S q l sd L (dgQ 3 (m++recG r.rp))++R):=fun R=>by
   rw [← raskS_app h.orc]
   exact ref_digest (h.orc.more _) hl hLd 3 _ (by rw [hdl];decide) (by rw [hdl];decide) (.inl ⟨false,rfl⟩) (fun i off n c' e=>by cases e)
  have hlen:=length_raskS (S:=S) (q:=q) (l:=l) (sd:=sd) (L:=L) (dgQ 3 (m++recG r.rp))
  generalize raskS S q l sd L (dgQ 3 (m++recG r.rp))=S1 at *
  generalize askD [] L (dgQ 3 (m++recG r.rp))=x at *
  have t1:(bl x).take 32=bl x:=List.take_of_length_le (by rw [length_bl];omega)
  have t2:x.take 32=x:=List.take_of_length_le (by omega)
  rw [← append_bl] at hD
  generalize recG r.rp=G at *
  have g1:(bl G).take 128=bl G:=List.take_of_length_le (by rw [length_bl];omega)
  have g2:G.take 128=G:=List.take_of_length_le (by omega)
  have g3:(bl G).length=128:=by rw [length_bl];exact hgl
  generalize rpC r.rp=rp at *
  generalize rdC r=R at *
  refine acall_fnK cxOk Tryz.func12 (fun _=>false) (fe12.q) (by kernel_rfl) (by dsimp only [Tryz.f12,go_sem,seval,liteO,Option.map,List.map];exact .mk _) ?_
  dsimp only [Tryz.f12,frame0,List.zipIdx,List.map,Nat.reduceAdd]
  repeat' (first|refine aC_seq ?_|refine aC_reg rfl ?_|refine aC_block ?_|refine aC_skip ?_|refine thenQ_normal ?_|refine blockQ_normal ?_|refine aL_nil ?_|(apply aL_step;(·exact True.intro);(iterate 2 (·simp (disch:=first|omega|(simp only [go_sem];omega)) only [go_sem,seval,hrl,hk0,hrp,g3,o_put0,decide_false,List.replicate]<;>with_reducible rfl));(·simp only [go_sem]<;>with_reducible rfl))|(refine aC_condF ?_ ?_;(·simp (disch:=first|omega|(simp only [go_sem];omega)) only [go_sem,seval]))|(apply aL_aK (hR _);(·rfl);(iterate 2 (·simp (disch:=first|omega|(simp only [go_sem];omega)) only [go_sem,seval]<;>with_reducible rfl));(·simp only [go_sem]<;>with_reducible rfl))|fail)
  refine aC_regB (U:=[(some 44,some 46),(some 44,some 48)]) rfl [(some 44,y)] ?_
  repeat' (first|refine aLB_nil ?_|(apply aLB_step;(·exact True.intro);(·exact (by intro h;cases h));(·rfl);(·simp (disch:=first|omega|(simp only [go_sem];omega)) only [go_sem,seval]);(·simp (disch:=first|omega|(simp only [go_sem];omega)) only [go_sem,seval,hlen,hB,hmt,hml,hme,hx,g1,g3,o_put0]<;>with_reducible rfl);(·simp only [go_sem]<;>with_reducible rfl);(·(intro b hb;first|(cases hb;done)|(simp (disch:=first|omega|(simp only [go_sem];omega)) only [loadBox,go_sem,seval] at hb;(try injection hb with hb);subst hb;simp))))|(apply aLB_write;(·exact True.intro);(·rfl);(·rfl);(·simp (disch:=first|omega|(simp only [go_sem];omega)) only [go_sem,seval]);(·simp (disch:=first|omega|(simp only [go_sem];omega)) only [go_sem,seval,hlen,hmt,hml,hme,hx,g1,g3,o_put0]<;>with_reducible rfl);(·simp only [go_sem]<;>with_reducible rfl);(·first|(simp;done)|(intro e he _;simp only [List.mem_cons,List.not_mem_nil,or_false] at he;(repeat' (obtain he|he:=(he:_∨_)));all_goals (subst he;simp (disch:=first|omega|(simp only [go_sem];omega)) only [go_sem,seval,hB]))))|(apply aLB_aW (hD _);(·rfl);(iterate 3 (·simp (disch:=first|omega|(simp only [go_sem];omega)) only [go_sem,seval]<;>with_reducible rfl));(·simp only [go_sem]<;>with_reducible rfl);(·simp))|fail)
  repeat' (first|refine aC_ret ?_|refine thenQ_normal ?_|fail)
  all_goals try (first|exact True.intro|exact not_false|omega|(simp (disch:=first|omega|(simp only [go_sem];omega)) only [go_sem,seval]<;>omega))
  all_goals try (simp (disch:=first|omega|(simp only [go_sem];omega)) only [go_sem,seval,hlen,hx,t1])
  all_goals try simp [g1,g3]
  all_goals try exact ⟨by omega,by rw [hmt];exact fun c hc=>bl_one _ c hc⟩
  all_goals try exact fun c hc=>bl_one _ c hc
 exact h.orc.keep _ rfl hw (by simp [bel,bels_bl])
end
end
end Go.Am
