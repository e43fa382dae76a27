/- do: Create, Next, anything else; all. -/
import Derived.Test.YteemcehaekffeaaGreatO41
import Derived.Test.YteemcehaekffeaaGreatAmMapW
import Derived.Test.YteemcehaekffeaaGreatAmRow
import Derived.Test.YteemcehaekffeaaGreatRows
set_option linter.unusedVariables false
set_option linter.unusedSimpArgs false
section
namespace Go.Am
open Go Go.Proofs
set_option maxHeartbeats 8000000
set_option maxRecDepth 100000
section
attribute [local irreducible] aC aL thenQ blockQ scopeQ ALoop AWp
section
variable {n:Nat} {S:St} {L:List It} {last:Nat} {rs:Rs} {c b:Nat} {all:AVal}
theorem Far.app (S R:St):Far S (S++R):=⟨by rw [List.length_append];omega,fun i x _ hx _=>by rw [List.getElem?_append_left (List.getElem?_eq_some_iff.1 hx).1];exact hx⟩
theorem do_1_by (hS13:13≤S.length) {a:Act} (ha:a.Ok) (hk:a.kind=1) {R:Rm} (hR:R.Ok) (hlg:R.log.length≤1000000) {er:Int} {S1 S2:St} (f1:Far (S++[.cells [.ptr 3 0,.ptr 8 0,.ptr 10 0] 28,.cells (actC a) 49]) S1) (f2:Far (S1++[.cells (rmC R) 37]) S2)
  (h1:ACall cx 9 [.ptr 8 0,.int .i64 a.rd,.int .i64 a.root,.agg (bl a.v++[.int .u64 a.nodes]),.agg (bl a.t)] (S++[.cells [.ptr 3 0,.ptr 8 0,.ptr 10 0] 28,.cells (actC a) 49]) (.tup [.agg (rmC R),.int .i64 er]) S1) (h2:ACall cx 10 [.ptr 10 0,.int .i64 a.rd,.int .i64 a.root,.agg (bl a.v++[.int .u64 a.nodes]),.agg (bl a.t)] (S1++[.cells (rmC R) 37]) (.tup [.agg (rmC R),.int .i64 er]) S2) :
  ACall cx 11 [.agg [.ptr 3 0,.ptr 8 0,.ptr 10 0],.agg (actC a)] S (.bool true) (S2++[.cells (rmC R) 37]):=by
 have hal:=length_actC ha
 have hao:=act_one a
 have a1:=act_1 a
 have a2:=act_2 a
 have a3:=act_3 a
 have a4:=act_4 a
 have a5:=act_5 ha
 have a6:=act_6 ha
 have a7:=act_7 ha
 have a8:=act_8 ha
 rw [hk] at a1
 have g0:S1[S.length]? = some (.cells [.ptr 3 0,.ptr 8 0,.ptr 10 0] 28):=f1.2 _ _ hS13 (by rw [List.getElem?_append_right (Nat.le_refl _),Nat.sub_self];rfl) rfl
 have g1:S1[S.length+1]? = some (.cells (actC a) 49):=f1.2 _ _ (by omega) (by rw [List.getElem?_append_right (by omega),Nat.add_sub_cancel_left];rfl) rfl
 have hl1:S.length+2≤S1.length:=by have:=f1.1;rw [List.length_append] at this;exact this
 have g2:S2[S1.length]? = some (.cells (rmC R) 37):=f2.2 _ _ (by omega) (by rw [List.getElem?_append_right (Nat.le_refl _),Nat.sub_self];rfl) rfl
 have hl2:S1.length+1≤S2.length:=by have:=f2.1;rw [List.length_append] at this;exact this
 have hrm:=length_rmC hR
 have hro:=rm_one R
 have hrt:(rmC R).take 103=rmC R:=List.take_of_length_le (by omega)
 have hsm:=fun Q:St=>ref_same_rm (S:=S2++Q) (by rw [List.length_append];omega) hR hlg
 clear f1 f2
 generalize actC a=A at *
 generalize rmC R=rm at *
 refine acall_fnK cxOk Tryz.func11 (fun _=>false) (fe11.q) (by kernel_rfl) (by dsimp only [Tryz.f11,go_sem,seval,liteO,Option.map,List.map];exact .mk _) ?_
 dsimp only [Tryz.f11,frame0,List.zipIdx,List.map,Nat.reduceAdd]
 repeat' (first|refine aC_seq ?_|refine aC_reg rfl ?_|refine aC_block ?_|refine aC_ret ?_|refine thenQ_normal ?_|refine thenQ_ret ?_|refine blockQ_ret ?_|refine aL_nil ?_|(apply aL_step;(·exact True.intro);(iterate 2 (·simp (disch:=first|omega|(simp only [go_sem];omega)) only [go_sem,seval,hal,a1,a2,a3,a5,a6,g0,g1,decide_true,g2,hrm,hrt,o_put0]<;>with_reducible rfl));(·simp only [go_sem]<;>with_reducible rfl))|(refine aC_condT ?_ ?_;(·simp (disch:=first|omega|(simp only [go_sem];omega)) only [go_sem,seval]))|(apply aL_aK (h1);(·rfl);(iterate 2 (·simp (disch:=first|omega|(simp only [go_sem];omega)) only [go_sem,seval]<;>with_reducible rfl));(·simp only [go_sem]<;>with_reducible rfl))|(apply aL_aK (h2);(·rfl);(iterate 2 (·simp (disch:=first|omega|(simp only [go_sem];omega)) only [go_sem,seval]<;>with_reducible rfl));(·simp only [go_sem]<;>with_reducible rfl))|(apply aL_aK (hsm _);(·rfl);(iterate 2 (·simp (disch:=first|omega|(simp only [go_sem];omega)) only [go_sem,seval]<;>with_reducible rfl));(·simp only [go_sem]<;>with_reducible rfl))|fail)
 all_goals try (first|exact True.intro|exact not_false|omega|(simp (disch:=first|omega|(simp only [go_sem];omega)) only [go_sem,seval]<;>omega))
theorem do_1 (h:Sim n S L last rs c b all) (hn:n≤100) {a:Act} (ha:a.Ok) (hk:a.kind=1):∃ (S':St) (L':List It) (last':Nat) (rs':Rs) (c' b':Nat) (all':AVal),ACall cx 11 [.agg [.ptr 3 0,.ptr 8 0,.ptr 10 0],.agg (actC a)] S (.bool true) S'∧Far S S'∧Sim (n+1) S' L' last' rs' c' b' all'∧Stays a.rd rs rs'∧(a.kind≠7→Cts last rs rs' last'):=by
 have hS13:13≤S.length:=by have:=h.rf.orc.lt;omega
 have err:∀ er:Int,(∀ Q:St,ACall cx 9 [.ptr 8 0,.int .i64 a.rd,.int .i64 a.root,.agg (bl a.v++[.int .u64 a.nodes]),.agg (bl a.t)] (S++Q) (.tup [.agg (rmC zRm),.int .i64 er]) (S++Q))→(∀ Q:St,ACall cx 10 [.ptr 10 0,.int .i64 a.rd,.int .i64 a.root,.agg (bl a.v++[.int .u64 a.nodes]),.agg (bl a.t)] (S++Q) (.tup [.agg (rmC zRm),.int .i64 er]) (S++Q))→∃ (S':St) (L':List It) (last':Nat) (rs':Rs) (c' b':Nat) (all':AVal),ACall cx 11 [.agg [.ptr 3 0,.ptr 8 0,.ptr 10 0],.agg (actC a)] S (.bool true) S'∧Far S S'∧Sim (n+1) S' L' last' rs' c' b' all'∧Stays a.rd rs rs'∧(a.kind≠7→Cts last rs rs' last'):=fun er e1 e2=>by
  have e2':=e2 ([.cells [.ptr 3 0,.ptr 8 0,.ptr 10 0] 28,.cells (actC a) 49]++[.cells (rmC zRm) 37])
  rw [← List.append_assoc] at e2'
  have hc:=do_1_by hS13 ha hk zRm_ok (Nat.zero_le _) (.refl _) (.refl _) (e1 [.cells [.ptr 3 0,.ptr 8 0,.ptr 10 0] 28,.cells (actC a) 49]) e2'
  rw [List.append_assoc,List.append_assoc] at hc
  exact ⟨_,L,last,rs,c,b,all,hc,.app _ _,h.idle.more _,.refl _ _,fun _=>.refl _ _⟩
 by_cases hb:a.rd<0∨a.root<0
 ·exact err 2 (fun Q=>realm_create_arg (h.rz.rms.more Q) hb ha.v ha.t) (fun Q=>ref_create_arg (h.rf.more Q) hb ha.v ha.t)
 rcases hr:at? rs a.rd with _|p
 ·obtain ⟨S1,L',c',R,hl,hP,f1,hQ,hst,_,_,hct,hRo,hRl⟩:=done_create h hn hr (root:=a.root) (by omega) (by omega) (nodes:=a.nodes) ha.v ha.t
  obtain ⟨S2,b',all',h2,f2,hs⟩:=hQ ([.cells [.ptr 3 0,.ptr 8 0,.ptr 10 0] 28,.cells (actC a) 49]++[.cells (rmC R) 37])
  rw [← List.append_assoc] at h2 f2
  have f1':Far (S++[.cells [.ptr 3 0,.ptr 8 0,.ptr 10 0] 28,.cells (actC a) 49]) (S1++[.cells [.ptr 3 0,.ptr 8 0,.ptr 10 0] 28,.cells (actC a) 49]):=⟨by simp [hl],fun i x hi hx hr=>by
   by_cases hlt:i<S.length
   ·rw [List.getElem?_append_left hlt] at hx
    rw [List.getElem?_append_left (by omega)]
    exact f1.2 i x hi hx hr
   ·rw [List.getElem?_append_right (by omega)] at hx
    rw [List.getElem?_append_right (by omega),hl]
    exact hx⟩
  have hc:=do_1_by hS13 ha hk hRo (by omega) f1' f2 (hP [.cells [.ptr 3 0,.ptr 8 0,.ptr 10 0] 28,.cells (actC a) 49]) h2
  exact ⟨_,L',last+1,_,c',b',all',hc,(((Far.app S [.cells [.ptr 3 0,.ptr 8 0,.ptr 10 0] 28,.cells (actC a) 49]).trans f1').trans (Far.app _ _)).trans (f2.trans (Far.app _ _)),hs.more _,hst,fun _=>hct⟩
 ·obtain ⟨e,he,_,_⟩:=at_some hr
  exact err 7 (fun Q=>realm_create_state (h.rz.rms.more Q) (by omega) (by omega) hr he ha.v ha.t) (fun Q=>ref_create_state (h.rf.more Q) (by have:=h.rl;omega) (by omega) (by omega) hr ha.v ha.t)
theorem do_7_by (hS13:13≤S.length) {a:Act} (ha:a.Ok) (hk:a.kind=7) {m er:Int} {S1 S2:St} (f1:Far (S++[.cells [.ptr 3 0,.ptr 8 0,.ptr 10 0] 28,.cells (actC a) 49]) S1)
  (h1:ACall cx 13 [.ptr 8 0,.int .i64 a.rd] (S++[.cells [.ptr 3 0,.ptr 8 0,.ptr 10 0] 28,.cells (actC a) 49]) (.tup [.int .u64 m,.int .i64 er]) S1) (h2:ACall cx 14 [.ptr 10 0,.int .i64 a.rd] S1 (.tup [.int .u64 m,.int .i64 er]) S2) :
  ACall cx 11 [.agg [.ptr 3 0,.ptr 8 0,.ptr 10 0],.agg (actC a)] S (.bool true) S2:=by
 have hal:=length_actC ha
 have hao:=act_one a
 have a1:=act_1 a
 have a2:=act_2 a
 have a3:=act_3 a
 have a4:=act_4 a
 have a5:=act_5 ha
 have a6:=act_6 ha
 have a7:=act_7 ha
 have a8:=act_8 ha
 rw [hk] at a1
 have g0:S1[S.length]? = some (.cells [.ptr 3 0,.ptr 8 0,.ptr 10 0] 28):=f1.2 _ _ hS13 (by rw [List.getElem?_append_right (Nat.le_refl _),Nat.sub_self];rfl) rfl
 have g1:S1[S.length+1]? = some (.cells (actC a) 49):=f1.2 _ _ (by omega) (by rw [List.getElem?_append_right (by omega),Nat.add_sub_cancel_left];rfl) rfl
 clear f1
 generalize actC a=A at *
 refine acall_fnK cxOk Tryz.func11 (fun _=>false) (fe11.q) (by kernel_rfl) (by dsimp only [Tryz.f11,go_sem,seval,liteO,Option.map,List.map];exact .mk _) ?_
 dsimp only [Tryz.f11,frame0,List.zipIdx,List.map,Nat.reduceAdd]
 repeat' (first|refine aC_seq ?_|refine aC_reg rfl ?_|refine aC_block ?_|refine aC_ret ?_|refine thenQ_normal ?_|refine thenQ_ret ?_|refine blockQ_ret ?_|refine aL_nil ?_|(apply aL_step;(·exact True.intro);(iterate 2 (·simp (disch:=first|omega|(simp only [go_sem];omega)) only [go_sem,seval,hal,a1,a2,g0,g1,decide_true,decide_false]<;>with_reducible rfl));(·simp only [go_sem]<;>with_reducible rfl))|(refine aC_condT ?_ ?_;(·simp (disch:=first|omega|(simp only [go_sem];omega)) only [go_sem,seval]))|(refine aC_condF ?_ ?_;(·simp (disch:=first|omega|(simp only [go_sem];omega)) only [go_sem,seval]))|(apply aL_aK (h1);(·rfl);(iterate 2 (·simp (disch:=first|omega|(simp only [go_sem];omega)) only [go_sem,seval]<;>with_reducible rfl));(·simp only [go_sem]<;>with_reducible rfl))|(apply aL_aK (h2);(·rfl);(iterate 2 (·simp (disch:=first|omega|(simp only [go_sem];omega)) only [go_sem,seval]<;>with_reducible rfl));(·simp only [go_sem]<;>with_reducible rfl))|fail)
 all_goals try (first|exact True.intro|exact not_false|omega|(simp (disch:=first|omega|(simp only [go_sem];omega)) only [go_sem,seval]<;>omega))
theorem do_7 (h:Sim n S L last rs c b all) (hn:n≤100) {a:Act} (ha:a.Ok) (hk:a.kind=7):∃ (S':St) (L':List It) (last':Nat) (rs':Rs) (c' b':Nat) (all':AVal),ACall cx 11 [.agg [.ptr 3 0,.ptr 8 0,.ptr 10 0],.agg (actC a)] S (.bool true) S'∧Far S S'∧Sim (n+1) S' L' last' rs' c' b' all'∧Stays a.rd rs rs'∧(a.kind≠7→Cts last rs rs' last'):=by
 have hS13:13≤S.length:=by have:=h.rf.orc.lt;omega
 rcases hr:at? rs a.rd with _|p
 ·obtain ⟨S1,S2,L',last',rs',c',b',all',h1,f1,h2,f2,hs,hst,_⟩:=done_next_none (h.more [.cells [.ptr 3 0,.ptr 8 0,.ptr 10 0] 28,.cells (actC a) 49]) hn hr
  exact ⟨S2,L',last',rs',c',b',all',do_7_by hS13 ha hk f1 h1 h2,(Far.app S [.cells [.ptr 3 0,.ptr 8 0,.ptr 10 0] 28,.cells (actC a) 49]).trans (f1.trans f2),hs,hst,fun k=>absurd hk k⟩
 ·obtain ⟨e,he,_,_⟩:=at_some hr
  obtain ⟨S1,S2,L',last',rs',c',b',all',h1,f1,h2,f2,hs,hst,_⟩:=done_next (h.more [.cells [.ptr 3 0,.ptr 8 0,.ptr 10 0] 28,.cells (actC a) 49]) hn hr he
  exact ⟨S2,L',last',rs',c',b',all',do_7_by hS13 ha hk f1 h1 h2,(Far.app S [.cells [.ptr 3 0,.ptr 8 0,.ptr 10 0] 28,.cells (actC a) 49]).trans (f1.trans f2),hs,hst,fun k=>absurd hk k⟩
theorem do_other (h:Sim n S L last rs c b all) {a:Act} (ha:a.Ok) (hk:a.kind<1∨9<a.kind):∃ (S':St) (L':List It) (last':Nat) (rs':Rs) (c' b':Nat) (all':AVal),ACall cx 11 [.agg [.ptr 3 0,.ptr 8 0,.ptr 10 0],.agg (actC a)] S (.bool true) S'∧Far S S'∧Sim (n+1) S' L' last' rs' c' b' all'∧Stays a.rd rs rs'∧(a.kind≠7→Cts last rs rs' last'):=by
 have hal:=length_actC ha
 have hao:=act_one a
 have a1:=act_1 a
 have k1:¬ a.kind=1:=by omega
 have k2:¬ a.kind=2:=by omega
 have k3:¬ a.kind=3:=by omega
 have k4:¬ a.kind=4:=by omega
 have k5:¬ a.kind=5:=by omega
 have k6:¬ a.kind=6:=by omega
 have k7:¬ a.kind=7:=by omega
 have k8:¬ a.kind=8:=by omega
 have k9:¬ a.kind=9:=by omega
 refine ⟨S++[.cells [.ptr 3 0,.ptr 8 0,.ptr 10 0] 28,.cells (actC a) 49],L,last,rs,c,b,all,?_,.app _ _,h.idle.more _,.refl _ _,fun _=>.refl _ _⟩
 generalize a.kind=k at *
 generalize actC a=A at *
 refine acall_fnK cxOk Tryz.func11 (fun _=>false) (fe11.q) (by kernel_rfl) (by dsimp only [Tryz.f11,go_sem,seval,liteO,Option.map,List.map];exact .mk _) ?_
 dsimp only [Tryz.f11,frame0,List.zipIdx,List.map,Nat.reduceAdd]
 repeat' (first|refine aC_seq ?_|refine aC_reg rfl ?_|refine aC_block ?_|refine aC_skip ?_|refine aC_ret ?_|refine thenQ_normal ?_|refine blockQ_normal ?_|refine aL_nil ?_|(apply aL_step;(·exact True.intro);(iterate 2 (·simp (disch:=first|omega|(simp only [go_sem];omega)) only [go_sem,seval,hal,a1,k1,k2,k3,k4,k5,k6,k7,k8,k9,decide_false]<;>with_reducible rfl));(·simp only [go_sem]<;>with_reducible rfl))|(refine aC_condF ?_ ?_;(·simp (disch:=first|omega|(simp only [go_sem];omega)) only [go_sem,seval]))|fail)
 all_goals try (first|exact True.intro|exact not_false|omega|(simp (disch:=first|omega|(simp only [go_sem];omega)) only [go_sem,seval]<;>omega))
theorem do_all (h:Sim n S L last rs c b all) (hn:n≤100) {a:Act} (ha:a.Ok):∃ (S':St) (L':List It) (last':Nat) (rs':Rs) (c' b':Nat) (all':AVal),ACall cx 11 [.agg [.ptr 3 0,.ptr 8 0,.ptr 10 0],.agg (actC a)] S (.bool true) S'∧Far S S'∧Sim (n+1) S' L' last' rs' c' b' all'∧Stays a.rd rs rs'∧(a.kind≠7→Cts last rs rs' last'):=by
 by_cases hk:a.kind<1∨9<a.kind
 ·exact do_other h ha hk
 ·rcases (show a.kind=1∨a.kind=2∨a.kind=3∨a.kind=4∨a.kind=5∨a.kind=6∨a.kind=7∨a.kind=8∨a.kind=9 by omega) with k|k|k|k|k|k|k|k|k
  ·exact do_1 h hn ha k
  ·exact do_2 h hn ha k
  ·exact do_3 h hn ha k
  ·exact do_4 h hn ha k
  ·exact do_5 h hn ha k
  ·exact do_6 h hn ha k
  ·exact do_7 h hn ha k
  ·exact do_8 h hn ha k
  ·exact do_9 h hn ha k
end
end
end Go.Am
end
section
namespace Go.Am
open Go Go.Proofs
set_option maxHeartbeats 8000000
set_option maxRecDepth 100000
section
attribute [local irreducible] aC aL thenQ blockQ scopeQ ALoop AWp
abbrev Cn:=List (Nat × Nat × Nat)
def cnE (cn:Cn):Ents:=cn.map fun p=>(.int .u64 (p.1:Nat),.int .u64 (p.2.1:Nat),p.2.2)
def cnt:Cn→Nat→Nat
 |[],_=>0
 |p::r,i=>if p.1=i then p.2.1 else cnt r i
def cnUpd (i v c:Nat):Cn→Cn
 |[]=>[(i,v,c)]
 |p::r=>if p.1=i then (i,v,p.2.2)::r else p::cnUpd i v c r
def cnClk (i c:Nat):Cn→Nat
 |[]=>c+1
 |p::r=>if p.1=i then c else cnClk i c r
theorem cnt_upd (i v c:Nat):∀ (cn:Cn) (j:Nat),cnt (cnUpd i v c cn) j=if j=i then v else cnt cn j
 |[],j=>by
  by_cases h:j=i
  ·simp [cnUpd,cnt,h]
  ·have:¬ i=j:=fun e=>h e.symm
   simp [cnUpd,cnt,h,this]
 |p::r,j=>by
  by_cases h1:p.1=i
  ·by_cases h:j=i
   ·subst h
    simp [cnUpd,cnt,h1]
   ·have:¬ i=j:=fun e=>h e.symm
    have h2:¬ p.1=j:=fun e=>this (h1.symm.trans e)
    simp [cnUpd,cnt,h1,h,this]
  ·have ih:=cnt_upd i v c r j
   by_cases h:p.1=j
   ·have h3:¬ j=i:=fun e=>h1 (h.trans e)
    simp [cnUpd,cnt,h,h3]
   ·simp [cnUpd,cnt,h1,h,ih]
theorem aeq_nat (i j:Nat):aeqs (AVal.int .u64 (i:Nat)).cells (AVal.int .u64 (j:Nat)).cells=decide (j=i):=by
 show (decide (((i:Nat):Int)=((j:Nat):Int))&&true)=_
 rw [Bool.and_true]
 exact decide_eq_decide.2 (by omega)
theorem findK_cons (i:Nat) (p:Nat × Nat × Nat) (r:Cn):findK (.int .u64 (i:Nat)) (cnE (p::r))=if p.1=i then some 0 else (findK (.int .u64 (i:Nat)) (cnE r)).map (·+ 1):=by
 unfold findK cnE
 rw [List.map_cons,List.findIdx?_cons,aeq_nat]
 by_cases h:p.1=i<;>simp [h]
theorem look_cn (i:Nat):∀ cn:Cn,lookV (.int .u64 (i:Nat)) (cnE cn) (.int .u64 0) = .int .u64 (cnt cn i:Nat)
 |[]=>rfl
 |p::r=>by
  have ih:=look_cn i r
  unfold lookV at *
  rw [findK_cons]
  by_cases h:p.1=i
  ·simp [h,cnt,cnE]
  ·simp only [h,if_false,cnt]
   rw [← ih]
   rcases findK (.int .u64 (i:Nat)) (cnE r) with _|q<;>simp [cnE]
theorem set_cn (i v c:Nat):∀ cn:Cn,setK (.int .u64 (i:Nat)) (.int .u64 (v:Nat)) (cnE cn) c = .mp (cnE (cnUpd i v c cn)) (cnClk i c cn)
 |[]=>rfl
 |p::r=>by
  have ih:=set_cn i v c r
  unfold setK at *
  rw [findK_cons]
  by_cases h:p.1=i
  ·simp [h,cnUpd,cnClk,cnE]
  ·simp only [h,if_false,cnUpd,cnClk]
   rcases hf:findK (.int .u64 (i:Nat)) (cnE r) with _|q
   ·rw [hf] at ih
    simp only [Option.map_none] at ih ⊢
    injection ih with h1 h2
    rw [← h2]
    show ABox.mp ((_::cnE r)++_) _ = .mp (_::cnE _) _
    rw [← h1]
    rfl
   ·rw [hf] at ih
    simp only [Option.map_some] at ih ⊢
    injection ih with h1 h2
    rw [← h2]
    show ABox.mp ((_::cnE r).set (q+1) _) _ = .mp (_::cnE _) _
    rw [← h1]
    simp [cnE]
theorem keyFit_u64 (i:Int):keyFit cx 31 (.int .u64 i)=true:=by
 unfold keyFit
 rw [T31]
 have h1:flatT cx.P cx.T 20 31=true:=by kernel_rfl
 simp only [h1,Bool.true_and]
 rfl
theorem keys_cn (i:Nat) (cn:Cn):keysOk cx 31 (.int .u64 (i:Nat)) (cnE cn):=⟨keyFit_u64 _,fun e he=>by
 obtain ⟨p,_,rfl⟩:=List.mem_map.1 he
 exact keyFit_u64 _⟩
end
end Go.Am
end
section
namespace Go.Am
open Go Go.Proofs
set_option maxHeartbeats 8000000
set_option maxRecDepth 100000
section
attribute [local irreducible] aC aL thenQ blockQ scopeQ ALoop AWp
theorem aStep_mkMap (C:Cx) (g:Nat→AVal) (S:St) (t:TypeId):aStep C (.makeMap t none) g S=some ⟨True,.map S.length,S++[.mp [] 0]⟩:=rfl
attribute [go_sem] aStep_mkMap
structure CS where
 k:Nat
 S:St
 L:List It
 last:Nat
 rs:Rs
 c:Nat
 b:Nat
 all:AVal
 cn:Cn
 cc:Nat
structure CI (l:List Act) (s:CS):Prop where
 k:s.k≤l.length
 sim:Sim s.k s.S s.L s.last s.rs s.c s.b s.all
 p13:s.S[13]? = some (.cells [.ptr 3 0,.ptr 8 0,.ptr 10 0] 28)
 p14:s.S[14]? = some (.mp (cnE s.cn) s.cc)
 ct:∀ e∈s.rs,cnt s.cn e.2.1.inst=e.2.1.ctr
 nw:∀ i,s.last<i→cnt s.cn i=0
theorem Sim.setO {n:Nat} {S:St} {L:List It} {last:Nat} {rs:Rs} {c b:Nat} {all:AVal} (h:Sim n S L last rs c b all) {i:Nat} {x:ABox} (hi:13≤i) (hx:S[i]? = some x) (hr:x.rd=false) (y:ABox):Sim n (S.set i y) L last rs c b all:=by
 have k:∀ j,j<13→(S.set i y)[j]? = S[j]?:=fun j hj=>List.getElem?_set_ne (by omega)
 refine ⟨⟨h.rz.orc.same (k 3 (by decide)) (k 2 (by decide)) (k 11 (by decide)),⟨(k 8 (by decide)).trans h.rz.rms.bx,(k 7 (by decide)).trans h.rz.rms.mp,h.rz.rms.ok⟩,h.rz.ak⟩,h.rf.same (k 9 (by decide)) (k 12 (by decide)) (k 10 (by decide)) (fun hn=>List.getElem?_set_ne (fun e=>?_)),h.ld,h.ll,h.rl,h.la,h.ri,h.nd,h.ni⟩
 subst e
 rw [(h.rf.row hn).2] at hx
 rw [← Option.some.inj hx] at hr
 cases hr
theorem beg_sim:Sim 0 (begS++[.cells [.ptr 3 0,.ptr 8 0,.ptr 10 0] 28,.mp (cnE []) 0]) [] 0 [] 0 0 (.sl 1 true [] .any) :=
 (⟨beg_rz,beg_ref,fun _ h=>(by cases h),Nat.le_refl _,Nat.le_refl _,Nat.le_refl _,fun _ h=>(by cases h),.nil,.nil⟩ : Sim 0 begS [] 0 [] 0 0 (.sl 1 true [] .any)).more _
theorem begS_len:begS.length=13:=rfl
theorem CI.next {l:List Act} {s:CS} (h:CI l s) (hk:s.k<l.length) {S':St} {L':List It} {last':Nat} {rs':Rs} {c' b':Nat} {all':AVal} (hs:Sim (s.k+1) S' L' last' rs' c' b' all') (f:Far s.S S') (hc:Cts s.last s.rs rs' last'):CI l ⟨s.k+1,S',L',last',rs',c',b',all',s.cn,s.cc⟩ :=
 ⟨hk,hs,f.2 13 _ (Nat.le_refl _) h.p13 rfl,f.2 14 _ (by decide) h.p14 rfl,fun e he=>by
  rcases hc.2 e he with ⟨e0,h0,h1,h2⟩|⟨h1,h2⟩
  ·rw [h1,h2];exact h.ct e0 h0
  ·rw [h2];exact h.nw _ h1,fun i hi=>h.nw i (by have:=hc.1;show s.last<i;have:last'<i:=hi;omega)⟩
theorem law_counts (l:List Act) (nl:Bool) (hl:∀ a∈l,a.Ok) (hlen:l.length≤9223372036854775807):APure cx 4 [.sl 207 nl (gls actC l) .any] (.bool true):=by
 have hgl:(gls actC l).length=l.length:=length_gls _ _
 have hknown:=law_known
 by_cases h60:60<l.length
 ·have h60':(60:Int)<(l.length:Int):=by omega
  refine pure_fnK cxOk Tryz.func4 (fun _=>false) (fe4.q) (by kernel_rfl) (by dsimp only [Tryz.f4,go_sem,seval,liteO,Option.map,List.map];exact .mk _) ?_
  dsimp only [Tryz.f4,frame0,List.zipIdx,List.map,Nat.reduceAdd]
  repeat' (first|refine aC_seq ?_|refine aC_reg rfl ?_|refine aC_ret ?_|refine thenQ_normal ?_|refine thenQ_ret ?_|refine aL_nil ?_|(apply aL_step;(·exact True.intro);(iterate 2 (·simp (disch:=omega) only [go_sem,seval,hgl,h60',decide_true]<;>with_reducible rfl));(·simp only [go_sem]<;>with_reducible rfl))|(refine aC_condT ?_ ?_;(·simp (disch:=omega) only [go_sem,seval]))|(apply aL_pK cxG (hknown);(iterate 2 (·simp (disch:=omega) only [go_sem,seval]<;>with_reducible rfl));(·simp only [go_sem]<;>with_reducible rfl);(·simp))|fail)
  all_goals try (first|exact True.intro|exact not_false|omega|(simp (disch:=omega) only [go_sem,seval]<;>omega))
  all_goals try (simp (disch:=omega) only [go_sem,seval])
  all_goals try simp
 ·have h60':¬ (60:Int)<(l.length:Int):=by omega
  have hbeg:=beg_ok
  have hbl:=begS_len
  refine pure_fnK cxOk Tryz.func4 (fun _=>false) (fe4.q) (by kernel_rfl) (by dsimp only [Tryz.f4,go_sem,seval,liteO,Option.map,List.map];exact .mk _) ?_
  dsimp only [Tryz.f4,frame0,List.zipIdx,List.map,Nat.reduceAdd]
  repeat' (first|refine aC_seq ?_|refine aC_reg rfl ?_|refine aC_block ?_|refine aC_skip ?_|refine aC_loop ?_|refine thenQ_normal ?_|refine aL_nil ?_|(apply aL_step;(·exact True.intro);(iterate 2 (·simp (disch:=omega) only [go_sem,seval,hgl,h60',hbl,decide_false]<;>with_reducible rfl));(·simp only [go_sem]<;>with_reducible rfl))|(refine aC_condF ?_ ?_;(·simp (disch:=omega) only [go_sem,seval]))|(apply aL_aK (hbeg);(·rfl);(iterate 2 (·simp (disch:=omega) only [go_sem,seval]<;>with_reducible rfl));(·simp only [go_sem]<;>with_reducible rfl))|fail)
  ·refine loop_rule (cxOk.wp _ _) (σ:=CS) (fun s=>[(5,.int .i64 s.k),(3,.ptr 13 0),(4,.map 14),(0,.sl 207 nl (gls actC l) .any)])
    (fun s=>s.S) (fun s=>l.length-s.k) (CI l) ⟨0,begS++[.cells [.ptr 3 0,.ptr 8 0,.ptr 10 0] 28,.mp (cnE []) 0],[],0,[],0,0,.sl 1 true [] .any,[],0⟩ (GStep.refl _ _) ⟨⟨Nat.zero_le _,beg_sim,rfl,rfl,fun _ h=>(by cases h),fun _ _=>rfl⟩,?_,?_⟩ ?_
   ·exact Sub.of_all (by simp [Fr.get])
   ·rfl
   intro s hs
   obtain ⟨k,S,L,last,rs,c,b,all,cn,cc⟩:=s
   have hk:=hs.k
   have hp13:=hs.p13
   have hp14:=hs.p14
   have hsim:=hs.sim
   simp only at hk hp13 hp14 hsim
   by_cases hlt:k<l.length
   ·have hlt':((k:Nat):Int)<(l.length:Int):=by omega
    have hS14:14<S.length:=(List.getElem?_eq_some_iff.1 hp14).1
    have hg:=getD_gls actC l ⟨0,0,0,0,[],0,[],[],⟨0,[],false⟩⟩ k .any hlt
    have hx:=hl (l.getD k ⟨0,0,0,0,[],0,[],[],⟨0,[],false⟩⟩) (by rw [show l.getD k ⟨0,0,0,0,[],0,[],[],⟨0,[],false⟩⟩=l[k] by simp [List.getD,hlt]];exact List.getElem_mem hlt)
    generalize l.getD k ⟨0,0,0,0,[],0,[],[],⟨0,[],false⟩⟩=a at *
    have hal:=length_actC hx
    have hat:(actC a).take 207=actC a:=List.take_of_length_le (by omega)
    have a1:=act_1 a
    have a2:=act_2 a
    by_cases hk7:a.kind=7
    ·rw [hk7] at a1
     rcases hr:at? rs a.rd with _|p
     ·have hget:=fun R:St=>realm_get_none (hsim.rz.rms.more R) hr
      obtain ⟨S1,S2,L',last',rs',c',b',all',h1,f1,h2,f2,hs2,hst,hrl1,hrl2⟩:=done_next_none (hsim.more [.cells (.int .u64 0 :: .int .i64 0 :: .int .i64 0 :: .int .u64 0::(bl [0,0,0,0,0,0,0,0,0,0,0,0,0,0,0,0,0,0,0,0,0,0,0,0,0,0,0,0,0,0,0,0]++(AVal.sl 1 true [] .any::(bl [0,0,0,0,0,0,0,0,0,0,0,0,0,0,0,0,0,0,0,0,0,0,0,0,0,0,0,0,0,0,0,0]++(AVal.int .u64 0::(bl [0,0,0,0,0,0,0,0,0,0,0,0,0,0,0,0,0,0,0,0,0,0,0,0,0,0,0,0,0,0,0,0]++[AVal.int .i64 0])))))) 37]) (by omega) hr
      have g13:S1[13]? = some (.cells [.ptr 3 0,.ptr 8 0,.ptr 10 0] 28):=f1.2 _ _ (Nat.le_refl _) (by rw [List.getElem?_append_left (by omega)];exact hp13) rfl
      have hfar:Far S S2:=(Far.app _ _).trans (f1.trans f2)
      subst hrl1 hrl2
      have hn:=hs.next (S':=S2) (L':=L') (c':=c') (b':=b') (all':=all') hlt hs2 hfar (.refl _ _)
      have zl:(.int .u64 0 :: .int .i64 0 :: .int .i64 0 :: .int .u64 0::(bl [0,0,0,0,0,0,0,0,0,0,0,0,0,0,0,0,0,0,0,0,0,0,0,0,0,0,0,0,0,0,0,0]++(AVal.sl 1 true [] .any::(bl [0,0,0,0,0,0,0,0,0,0,0,0,0,0,0,0,0,0,0,0,0,0,0,0,0,0,0,0,0,0,0,0]++(AVal.int .u64 0::(bl [0,0,0,0,0,0,0,0,0,0,0,0,0,0,0,0,0,0,0,0,0,0,0,0,0,0,0,0,0,0,0,0]++[AVal.int .i64 0])))))).length=103:=rfl
      have z0:putCells (.int .u64 0 :: .int .i64 0 :: .int .i64 0 :: .int .u64 0::(bl [0,0,0,0,0,0,0,0,0,0,0,0,0,0,0,0,0,0,0,0,0,0,0,0,0,0,0,0,0,0,0,0]++(AVal.sl 1 true [] .any::(bl [0,0,0,0,0,0,0,0,0,0,0,0,0,0,0,0,0,0,0,0,0,0,0,0,0,0,0,0,0,0,0,0]++(AVal.int .u64 0::(bl [0,0,0,0,0,0,0,0,0,0,0,0,0,0,0,0,0,0,0,0,0,0,0,0,0,0,0,0,0,0,0,0]++[AVal.int .i64 0])))))) 0 (.int .u64 0 :: .int .i64 0 :: .int .i64 0 :: .int .u64 0::(bl [0,0,0,0,0,0,0,0,0,0,0,0,0,0,0,0,0,0,0,0,0,0,0,0,0,0,0,0,0,0,0,0]++(AVal.sl 1 true [] .any::(bl [0,0,0,0,0,0,0,0,0,0,0,0,0,0,0,0,0,0,0,0,0,0,0,0,0,0,0,0,0,0,0,0]++(AVal.int .u64 0::(bl [0,0,0,0,0,0,0,0,0,0,0,0,0,0,0,0,0,0,0,0,0,0,0,0,0,0,0,0,0,0,0,0]++[AVal.int .i64 0]))))))=(.int .u64 0 :: .int .i64 0 :: .int .i64 0 :: .int .u64 0::(bl [0,0,0,0,0,0,0,0,0,0,0,0,0,0,0,0,0,0,0,0,0,0,0,0,0,0,0,0,0,0,0,0]++(AVal.sl 1 true [] .any::(bl [0,0,0,0,0,0,0,0,0,0,0,0,0,0,0,0,0,0,0,0,0,0,0,0,0,0,0,0,0,0,0,0]++(AVal.int .u64 0::(bl [0,0,0,0,0,0,0,0,0,0,0,0,0,0,0,0,0,0,0,0,0,0,0,0,0,0,0,0,0,0,0,0]++[AVal.int .i64 0])))))):=o_put0 rfl
      have z99:(bl [0,0,0,0,0,0,0,0,0,0,0,0,0,0,0,0,0,0,0,0,0,0,0,0,0,0,0,0,0,0,0,0]++(AVal.sl 1 true [] .any::(bl [0,0,0,0,0,0,0,0,0,0,0,0,0,0,0,0,0,0,0,0,0,0,0,0,0,0,0,0,0,0,0,0]++(AVal.int .u64 0::(bl [0,0,0,0,0,0,0,0,0,0,0,0,0,0,0,0,0,0,0,0,0,0,0,0,0,0,0,0,0,0,0,0]++[AVal.int .i64 0]))))).take 99=(bl [0,0,0,0,0,0,0,0,0,0,0,0,0,0,0,0,0,0,0,0,0,0,0,0,0,0,0,0,0,0,0,0]++(AVal.sl 1 true [] .any::(bl [0,0,0,0,0,0,0,0,0,0,0,0,0,0,0,0,0,0,0,0,0,0,0,0,0,0,0,0,0,0,0,0]++(AVal.int .u64 0::(bl [0,0,0,0,0,0,0,0,0,0,0,0,0,0,0,0,0,0,0,0,0,0,0,0,0,0,0,0,0,0,0,0]++[AVal.int .i64 0]))))):=by rfl
      have zone:=zRm_one
      unfold zRmC at hget zone
      have zone2:=fun x hx=>zone x (List.mem_cons_of_mem _ (List.mem_cons_of_mem _ (List.mem_cons_of_mem _ (List.mem_cons_of_mem _ hx))))
      clear f1 f2 hfar hs2 hst
      generalize actC a=A at *
      repeat' (first|refine aC_seq ?_|refine aC_reg rfl ?_|refine aC_block ?_|refine aC_skip ?_|refine thenQ_normal ?_|refine aL_nil ?_|(apply aL_step;(·exact True.intro);(iterate 2 (·simp (disch:=omega) only [go_sem,seval,hgl,hlt',hg,hal,a1,decide_true,decide_false]<;>with_reducible rfl));(·simp only [go_sem]<;>with_reducible rfl))|(refine aC_condT ?_ ?_;(·simp (disch:=omega) only [go_sem,seval]))|(refine aC_condF ?_ ?_;(·simp (disch:=omega) only [go_sem,seval]))|fail)
      refine aC_regH (U:=[(some 37,some 6),(some 42,some 6)]) rfl [(some 37,13)] [(S.length,.cells (.int .u64 0 :: .int .i64 0 :: .int .i64 0 :: .int .u64 0::(bl [0,0,0,0,0,0,0,0,0,0,0,0,0,0,0,0,0,0,0,0,0,0,0,0,0,0,0,0,0,0,0,0]++(AVal.sl 1 true [] .any::(bl [0,0,0,0,0,0,0,0,0,0,0,0,0,0,0,0,0,0,0,0,0,0,0,0,0,0,0,0,0,0,0,0]++(AVal.int .u64 0::(bl [0,0,0,0,0,0,0,0,0,0,0,0,0,0,0,0,0,0,0,0,0,0,0,0,0,0,0,0,0,0,0,0]++[AVal.int .i64 0])))))) 37)] 1 ?_
      repeat' (first|refine aLH_nil ?_|(apply aLH_step;(·exact True.intro);(·rfl);(·rfl);(·simp (disch:=omega) only [go_sem,seval]);(·simp (disch:=omega) only [go_sem,seval,hgl,hg,hal,a2,hp13]<;>with_reducible rfl);(·simp only [go_sem]<;>with_reducible rfl);(·(intro b hb;first|(cases hb;done)|(simp (disch:=omega) only [loadBox,go_sem,seval] at hb;(try injection hb with hb);subst hb;simp))))|(apply aLH_write;(·exact True.intro);(·rfl);(·rfl);(·rfl);(·simp (disch:=omega) only [go_sem,seval]);(·simp (disch:=omega) only [go_sem,seval,zl,z0]<;>with_reducible rfl);(·simp only [go_sem]<;>with_reducible rfl);(·first|(intro e he;simp only [List.mem_cons,List.not_mem_nil,or_false] at he;subst he;simp (disch:=omega) only [go_sem,seval];(try simp only [Option.some.injEq,reduceCtorEq,not_false_eq_true]);done)|(simp;done));(·first|(intro e he;simp only [List.mem_cons,List.not_mem_nil,or_false] at he;subst he;simp (disch:=omega) only [go_sem,seval];(try simp only [Option.some.injEq,reduceCtorEq,not_false_eq_true]);done)|(simp;done));(·first|(intro e _ hU;simp only [List.mem_cons,Prod.mk.injEq,reduceCtorEq,and_false,or_false,List.not_mem_nil] at hU;done)|simp))|(apply aLH_callR hget [.hole];(case hp=>(rfl));(case hlen=>(first|assumption|(simp (disch:=omega) only [go_sem,seval])));(case hT=>(first|rfl|(simp only [List.append_assoc,List.cons_append,List.nil_append];done)|(simp only [List.append_assoc,List.cons_append,List.nil_append];rfl)));(case hg=>(simp (disch:=omega) only [go_sem,seval]));(case hx=>(simp (disch:=omega) only [go_sem,seval]<;>with_reducible rfl));(case ha=>(simp (disch:=omega) only [go_sem,seval]<;>with_reducible rfl));(case he=>(with_reducible rfl));(case hf=>(simp only [go_sem]<;>with_reducible rfl));(case hT'=>(first|(simp only [List.append_assoc,List.cons_append,List.nil_append];with_reducible rfl)|rfl));(case hHs=>(first|(simp;done)|(simp;omega)));(case hB=>(simp)))|(apply aLH_alloc S.length;(case hg=>(simp (disch:=omega) only [go_sem,seval]));(case hi=>(simp (disch:=omega) only [go_sem,seval]<;>with_reducible rfl));(case hs=>(simp (disch:=omega) only [go_sem,seval]<;>with_reducible rfl));(case hS=>(simp (disch:=omega) only [go_sem,seval]<;>with_reducible rfl));(case hf=>(simp only [go_sem]<;>with_reducible rfl));(case hH=>(simp));(case hk=>(first|(simp;done)|(intro e he _;simp only [List.mem_cons,List.not_mem_nil,or_false] at he;(repeat' (obtain he|he:=(he:_∨_)));all_goals (subst he;simp (disch:=omega) only [go_sem,seval,hp13])))))|fail)
      repeat' (first|refine aC_seq ?_|refine aC_reg rfl ?_|refine aC_skip ?_|refine thenQ_normal ?_|refine blockQ_normal ?_|refine aL_nil ?_|(apply aL_step;(·exact True.intro);(iterate 2 (·simp (disch:=omega) only [go_sem,seval,hgl,hg,hal,a2,hp13,g13,decide_false]<;>with_reducible rfl));(·simp only [go_sem]<;>with_reducible rfl))|(refine aC_condF ?_ ?_;(·simp (disch:=omega) only [go_sem,seval]))|(apply aL_aK (h1);(·rfl);(iterate 2 (·simp (disch:=omega) only [go_sem,seval]<;>with_reducible rfl));(·simp only [go_sem]<;>with_reducible rfl))|(apply aL_aK (h2);(·rfl);(iterate 2 (·simp (disch:=omega) only [go_sem,seval]<;>with_reducible rfl));(·simp only [go_sem]<;>with_reducible rfl))|fail)
      all_goals try (first|exact True.intro|exact not_false|omega|(simp (disch:=omega) only [go_sem,seval]<;>omega))
      ·refine ⟨_,hn,Sub.of_all (by simp [Fr.get]),rfl,?_⟩
       show l.length-(k+1)<l.length-k
       omega
     ·obtain ⟨e,he,_,_⟩:=at_some hr
      have hri:=hsim.ri e (List.mem_of_getElem? he)
      have hro:=hsim.rz.rms.ok e (List.mem_of_getElem? he)
      have hlg:=hri.lg
      have hctb:=hri.ct
      have hget:=fun R:St=>realm_get (hsim.rz.rms.more R) hr he (by omega)
      obtain ⟨S1,S2,L',last',rs',c',b',all',h1,f1,h2,f2,hs2,hst,hrl1,hrl2⟩:=done_next (hsim.more [.cells (rmC e.2.1) 37]) (by omega) hr he
      have g13:S1[13]? = some (.cells [.ptr 3 0,.ptr 8 0,.ptr 10 0] 28):=f1.2 _ _ (Nat.le_refl _) (by rw [List.getElem?_append_left (by omega)];exact hp13) rfl
      have hfar:Far (S++[.cells (rmC e.2.1) 37]) S2:=f1.trans f2
      have gr:S2[S.length]? = some (.cells (rmC e.2.1) 37):=hfar.2 _ _ (by omega) (by rw [List.getElem?_append_right (Nat.le_refl _),Nat.sub_self];rfl) rfl
      have g13':S2[13]? = some (.cells [.ptr 3 0,.ptr 8 0,.ptr 10 0] 28):=hfar.2 _ _ (Nat.le_refl _) (by rw [List.getElem?_append_left (by omega)];exact hp13) rfl
      have g14:S2[14]? = some (.mp (cnE cn) cc):=hfar.2 _ _ (by decide) (by rw [List.getElem?_append_left (by omega)];exact hp14) rfl
      have hct:=hs.ct e (List.mem_of_getElem? he)
      simp only at hct
      subst hrl1
      have hl2:14<S2.length:=(List.getElem?_eq_some_iff.1 g14).1
      have hlr:S.length<S2.length:=(List.getElem?_eq_some_iff.1 gr).1
      have hn:CI l ⟨k+1,S2.set 14 (.mp (cnE (cnUpd e.2.1.inst (e.2.1.ctr+1) cc cn)) (cnClk e.2.1.inst cc cn)),L',last',rs',c',b',all',cnUpd e.2.1.inst (e.2.1.ctr+1) cc cn,cnClk e.2.1.inst cc cn⟩:=by
       refine ⟨hlt,hs2.setO (by decide) g14 rfl _,?_,List.getElem?_set_self hl2,fun e' he'=>?_,fun i hi=>?_⟩
       ·show (S2.set 14 _)[13]? = _
        rw [List.getElem?_set_ne (by decide)];exact g13'
       ·show cnt (cnUpd _ _ _ _) _=_
        have he2:e'∈rs':=he'
        rw [hrl2] at he2
        obtain ⟨j,hj⟩:=List.mem_iff_getElem?.1 he2
        rw [cnt_upd]
        by_cases hjp:p=j
        ·subst hjp
         rw [List.getElem?_set_self (at_lt hr)] at hj
         rw [← Option.some.inj hj]
         simp
        ·rw [List.getElem?_set_ne hjp] at hj
         have hne:¬ e'.2.1.inst=e.2.1.inst:=fun heq=>by
          have hj1:=(List.getElem?_eq_some_iff.1 hj).1
          have hp1:=at_lt hr
          have h1:(rs.map (·.2.1.inst))[j]'(by simpa using hj1)=(rs.map (·.2.1.inst))[p]'(by simpa using hp1):=by
           rw [List.getElem_map,List.getElem_map,(List.getElem?_eq_some_iff.1 hj).2,(List.getElem?_eq_some_iff.1 he).2,heq]
          exact hjp ((List.getElem_inj hsim.ni).1 h1).symm
         rw [if_neg hne]
         exact hs.ct e' (List.mem_of_getElem? hj)
       ·show cnt (cnUpd _ _ _ _) _=_
        have hi2:last'<i:=hi
        have:=hri.ins.2
        rw [cnt_upd,if_neg (by omega)]
        exact hs.nw i hi2
      have hlk:=look_cn e.2.1.inst cn
      rw [hct] at hlk
      have hsk:=set_cn e.2.1.inst (e.2.1.ctr+1) cc cn
      have hlk2:=look_cn e.2.1.inst (cnUpd e.2.1.inst (e.2.1.ctr+1) cc cn)
      rw [cnt_upd,if_pos rfl] at hlk2
      have hk1:=keys_cn e.2.1.inst cn
      have hk2:=keys_cn e.2.1.inst (cnUpd e.2.1.inst (e.2.1.ctr+1) cc cn)
      have hrm:=length_rmC hro
      have hroo:=rm_one e.2.1
      have hrt:(rmC e.2.1).take 103=rmC e.2.1:=List.take_of_length_le (by omega)
      have q1:=rm_1 e.2.1
      have q8:=rm_8 hro
      have w1:(((e.2.1.ctr:Nat):Int)+1)%18446744073709551616=((e.2.1.ctr+1:Nat):Int):=by omega
      have w2:IntKind.u64.wrap (((e.2.1.ctr:Nat):Int)+1)=((e.2.1.ctr+1:Nat):Int):=by rw [IntKind.wrap_u64];omega
      have w3:(((e.2.1.ctr+1:Nat):Int)-1)%18446744073709551616=((e.2.1.ctr:Nat):Int):=by omega
      have w4:IntKind.u64.wrap (((e.2.1.ctr+1:Nat):Int)-1)=((e.2.1.ctr:Nat):Int):=by rw [IntKind.wrap_u64];omega
      have zl:(.int .u64 0 :: .int .i64 0 :: .int .i64 0 :: .int .u64 0::(bl [0,0,0,0,0,0,0,0,0,0,0,0,0,0,0,0,0,0,0,0,0,0,0,0,0,0,0,0,0,0,0,0]++(AVal.sl 1 true [] .any::(bl [0,0,0,0,0,0,0,0,0,0,0,0,0,0,0,0,0,0,0,0,0,0,0,0,0,0,0,0,0,0,0,0]++(AVal.int .u64 0::(bl [0,0,0,0,0,0,0,0,0,0,0,0,0,0,0,0,0,0,0,0,0,0,0,0,0,0,0,0,0,0,0,0]++[AVal.int .i64 0])))))).length=103:=rfl
      clear f1 f2 hfar hs2 hst hct
      generalize cnE (cnUpd e.2.1.inst (e.2.1.ctr+1) cc cn)=E1 at *
      generalize cnE cn=E0 at *
      generalize rmC e.2.1=rm at *
      generalize actC a=A at *
      repeat' (first|refine aC_seq ?_|refine aC_reg rfl ?_|refine aC_block ?_|refine aC_skip ?_|refine thenQ_normal ?_|refine aL_nil ?_|(apply aL_step;(·exact True.intro);(iterate 2 (·simp (disch:=omega) only [go_sem,seval,hgl,hlt',hg,hal,a1,decide_true,decide_false]<;>with_reducible rfl));(·simp only [go_sem]<;>with_reducible rfl))|(refine aC_condT ?_ ?_;(·simp (disch:=omega) only [go_sem,seval]))|(refine aC_condF ?_ ?_;(·simp (disch:=omega) only [go_sem,seval]))|fail)
      refine aC_regH (U:=[(some 37,some 6),(some 42,some 6)]) rfl [(some 37,13)] [(S.length,.cells (.int .u64 0 :: .int .i64 0 :: .int .i64 0 :: .int .u64 0::(bl [0,0,0,0,0,0,0,0,0,0,0,0,0,0,0,0,0,0,0,0,0,0,0,0,0,0,0,0,0,0,0,0]++(AVal.sl 1 true [] .any::(bl [0,0,0,0,0,0,0,0,0,0,0,0,0,0,0,0,0,0,0,0,0,0,0,0,0,0,0,0,0,0,0,0]++(AVal.int .u64 0::(bl [0,0,0,0,0,0,0,0,0,0,0,0,0,0,0,0,0,0,0,0,0,0,0,0,0,0,0,0,0,0,0,0]++[AVal.int .i64 0])))))) 37)] 1 ?_
      repeat' (first|refine aLH_nil ?_|(apply aLH_step;(·exact True.intro);(·rfl);(·rfl);(·simp (disch:=omega) only [go_sem,seval]);(·simp (disch:=omega) only [go_sem,seval,hgl,hg,hal,a2,hp13]<;>with_reducible rfl);(·simp only [go_sem]<;>with_reducible rfl);(·(intro b hb;first|(cases hb;done)|(simp (disch:=omega) only [loadBox,go_sem,seval] at hb;(try injection hb with hb);subst hb;simp))))|(apply aLH_write;(·exact True.intro);(·rfl);(·rfl);(·rfl);(·simp (disch:=omega) only [go_sem,seval]);(·simp (disch:=omega) only [go_sem,seval,zl,hrm,o_put0]<;>with_reducible rfl);(·simp only [go_sem]<;>with_reducible rfl);(·first|(intro e he;simp only [List.mem_cons,List.not_mem_nil,or_false] at he;subst he;simp (disch:=omega) only [go_sem,seval];(try simp only [Option.some.injEq,reduceCtorEq,not_false_eq_true]);done)|(simp;done));(·first|(intro e he;simp only [List.mem_cons,List.not_mem_nil,or_false] at he;subst he;simp (disch:=omega) only [go_sem,seval];(try simp only [Option.some.injEq,reduceCtorEq,not_false_eq_true]);done)|(simp;done));(·first|(intro e _ hU;simp only [List.mem_cons,Prod.mk.injEq,reduceCtorEq,and_false,or_false,List.not_mem_nil] at hU;done)|simp))|(apply aLH_callR hget [.hole];(case hp=>(rfl));(case hlen=>(first|assumption|(simp (disch:=omega) only [go_sem,seval])));(case hT=>(first|rfl|(simp only [List.append_assoc,List.cons_append,List.nil_append];done)|(simp only [List.append_assoc,List.cons_append,List.nil_append];rfl)));(case hg=>(simp (disch:=omega) only [go_sem,seval]));(case hx=>(simp (disch:=omega) only [go_sem,seval]<;>with_reducible rfl));(case ha=>(simp (disch:=omega) only [go_sem,seval]<;>with_reducible rfl));(case he=>(with_reducible rfl));(case hf=>(simp only [go_sem]<;>with_reducible rfl));(case hT'=>(first|(simp only [List.append_assoc,List.cons_append,List.nil_append];with_reducible rfl)|rfl));(case hHs=>(first|(simp;done)|(simp;omega)));(case hB=>(simp)))|(apply aLH_alloc S.length;(case hg=>(simp (disch:=omega) only [go_sem,seval]));(case hi=>(simp (disch:=omega) only [go_sem,seval]<;>with_reducible rfl));(case hs=>(simp (disch:=omega) only [go_sem,seval]<;>with_reducible rfl));(case hS=>(simp (disch:=omega) only [go_sem,seval]<;>with_reducible rfl));(case hf=>(simp only [go_sem]<;>with_reducible rfl));(case hH=>(simp));(case hk=>(first|(simp;done)|(intro e he _;simp only [List.mem_cons,List.not_mem_nil,or_false] at he;(repeat' (obtain he|he:=(he:_∨_)));all_goals (subst he;simp (disch:=omega) only [go_sem,seval,hp13])))))|fail)
      repeat' (first|refine aC_seq ?_|refine aC_reg rfl ?_|refine aC_skip ?_|refine thenQ_normal ?_|refine blockQ_normal ?_|refine aL_nil ?_|(apply aL_step;(·exact True.intro);(iterate 2 (·simp (disch:=omega) only [go_sem,seval,hgl,hg,hal,a2,hp13,g13,gr,hrm,q1,q8,w2,w4,decide_true,decide_false]<;>with_reducible rfl));(·simp only [go_sem]<;>with_reducible rfl))|(refine aC_condT ?_ ?_;(·simp (disch:=omega) only [go_sem,seval]))|(refine aC_condF ?_ ?_;(·simp (disch:=omega) only [go_sem,seval]))|(apply aL_aK (h1);(·rfl);(iterate 2 (·simp (disch:=omega) only [go_sem,seval]<;>with_reducible rfl));(·simp only [go_sem]<;>with_reducible rfl))|(apply aL_aK (h2);(·rfl);(iterate 2 (·simp (disch:=omega) only [go_sem,seval]<;>with_reducible rfl));(·simp only [go_sem]<;>with_reducible rfl))|(apply aL_lookM;(case hg=>simp (disch:=omega) only [go_sem,seval]<;>with_reducible rfl);(case hT=>simp (disch:=omega) only [go_sem,seval]<;>with_reducible rfl);(case hd=>rfl);(case hj=>simp (disch:=omega) only [go_sem,seval]<;>with_reducible rfl);(case hm=>simp (disch:=omega) only [go_sem,seval]<;>with_reducible rfl);(case hk=>simp (disch:=omega) only [go_sem,seval]<;>with_reducible rfl);(case hS=>(simp (disch:=omega) only [go_sem,seval,g14];with_reducible rfl));(case hr=>simp (disch:=omega) only [go_sem,seval,hlk,hlk2]<;>with_reducible rfl);(case hf=>simp only [go_sem]<;>with_reducible rfl))|(apply aL_updM;(case hg=>simp (disch:=omega) only [go_sem,seval]<;>with_reducible rfl);(case hT=>simp (disch:=omega) only [go_sem,seval]<;>with_reducible rfl);(case hd=>rfl);(case hm=>simp (disch:=omega) only [go_sem,seval]<;>with_reducible rfl);(case hk=>simp (disch:=omega) only [go_sem,seval]<;>with_reducible rfl);(case hv=>simp (disch:=omega) only [go_sem,seval]<;>with_reducible rfl);(case hS=>(simp (disch:=omega) only [go_sem,seval,g14];with_reducible rfl));(case hr=>simp (disch:=omega) only [go_sem,seval,hsk]<;>with_reducible rfl);(case hf=>simp only [go_sem]<;>with_reducible rfl))|fail)
      all_goals try (first|exact True.intro|exact not_false|omega|(simp (disch:=omega) only [go_sem,seval]<;>omega))
      ·refine ⟨_,hn,Sub.of_all (by simp [Fr.get]),rfl,?_⟩
       show l.length-(k+1)<l.length-k
       omega
      all_goals try exact hk1
      all_goals try exact hk2
    ·obtain ⟨S',L',last',rs',c',b',all',hdo,hf,hs',hst,hct⟩:=do_all hsim (by omega) hx
     have hn:=hs.next hlt hs' hf (hct hk7)
     repeat' (first|refine aC_seq ?_|refine aC_reg rfl ?_|refine aC_block ?_|refine aC_skip ?_|refine aC_exit ?_|refine thenQ_normal ?_|refine thenQ_exit ?_|refine blockQ_hit ?_|refine aL_nil ?_|(apply aL_step;(·exact True.intro);(iterate 2 (·simp (disch:=omega) only [go_sem,seval,hgl,hlt',hg,hal,hat,a1,hk7,hp13,decide_true]<;>with_reducible rfl));(·simp only [go_sem]<;>with_reducible rfl))|(refine aC_condT ?_ ?_;(·simp (disch:=omega) only [go_sem,seval]))|(refine aC_condF ?_ ?_;(·simp (disch:=omega) only [go_sem,seval]))|(apply aL_aK (hdo);(·rfl);(iterate 2 (·simp (disch:=omega) only [go_sem,seval]<;>with_reducible rfl));(·simp only [go_sem]<;>with_reducible rfl))|fail)
     all_goals try (first|exact True.intro|exact not_false|omega|(simp (disch:=omega) only [go_sem,seval]<;>omega))
     ·refine ⟨_,hn,Sub.of_all (by simp [Fr.get]),rfl,?_⟩
      show l.length-(k+1)<l.length-k
      omega
   ·have hk2:k=l.length:=by omega
    subst hk2
    repeat' (first|refine aC_seq ?_|refine aC_reg rfl ?_|refine aC_exit ?_|refine aC_ret ?_|refine thenQ_normal ?_|refine thenQ_exit ?_|refine blockQ_hit ?_|refine aL_nil ?_|(apply aL_step;(·exact True.intro);(iterate 2 (·simp (disch:=omega) only [go_sem,seval,hgl]<;>with_reducible rfl));(·simp only [go_sem]<;>with_reducible rfl))|(refine aC_condP (by simp (disch:=omega) only [go_sem,seval]<;>with_reducible rfl) ?_ ?_<;>(intro h;first|(exfalso;omega)|skip))|(apply aL_pK cxG (hknown);(iterate 2 (·simp (disch:=omega) only [go_sem,seval]<;>with_reducible rfl));(·simp only [go_sem]<;>with_reducible rfl);(·simp))|fail)
    all_goals try (first|exact True.intro|exact not_false|omega|(simp (disch:=omega) only [go_sem,seval]<;>omega))
    all_goals try (simp (disch:=omega) only [go_sem,seval])
    all_goals try simp
  all_goals try (first|trivial|omega|(simp;done))
end
end Go.Am
end
section
namespace Go.Am
open Go Go.Proofs
set_option maxRecDepth 100000
theorem argC_int {P:Program} {k:Nat} {t:TypeId} {q:IntKind} {cs:List AVal} (hu:P.underlying t=some (.int q)) (h:ArgC P k t cs):∃ n:Int,cs=[.int q n]∧q.min≤n∧n≤q.max:=by
 cases k with
 |zero=>exact h.elim
 |succ k =>
  unfold ArgC at h
  rw [hu] at h
  obtain ⟨n,rfl,hw⟩:=h
  refine ⟨n,rfl,?_⟩
  simpa [Lit.wf] using hw
theorem argC_u64 {k:Nat} {cs:List AVal} (h:ArgC Tryz.prog k 31 cs):∃ n:Nat,cs=[.int .u64 (n:Int)]∧n<18446744073709551616:=by
 obtain ⟨n,rfl,hn0,hn1⟩:=argC_int Tryz.underlying31 h
 have hn0:0≤n:=hn0
 have hn1:n≤18446744073709551615:=hn1
 obtain ⟨w,rfl⟩:=Int.eq_ofNat_of_zero_le hn0
 exact ⟨w,rfl,by omega⟩
theorem argC_bool {k:Nat} {cs:List AVal} (h:ArgC Tryz.prog (k+1) 4 cs):∃ b:Bool,cs=[.bool b]:=by
 unfold ArgC at h
 rw [Tryz.underlying4] at h
 exact h
theorem flat_bytes (ps:List (List AVal)) (h:∀ p∈ps,∃ n:Int,p=[.int .u8 n]∧IntKind.u8.min≤n∧n≤IntKind.u8.max) :
  ∃ L:List UInt8,L.length=ps.length∧ps.flatten=bl L:=by
 induction ps with
 |nil=>exact ⟨[],rfl,rfl⟩
 |cons p ps ih =>
  obtain ⟨n,rfl,hn0,hn1⟩:=h p (List.mem_cons_self ..)
  have hn0:0≤n:=hn0
  have hn1:n≤255:=hn1
  obtain ⟨w,rfl⟩:=Int.eq_ofNat_of_zero_le hn0
  obtain ⟨L,h1,h2⟩:=ih fun q hq=>h q (List.mem_cons_of_mem _ hq)
  have e:(UInt8.ofNat w).toNat=w:=by simp [UInt8.toNat_ofNat'];omega
  refine ⟨UInt8.ofNat w::L,by simp [h1],?_⟩
  rw [List.flatten_cons,h2]
  simp [bl,bv,e]
theorem flat_words (ps:List (List AVal)) (h:∀ p∈ps,∃ n:Nat,p=[.int .u64 (n:Int)]∧n<18446744073709551616) :
  ∃ L:List Nat,L.length=ps.length∧ps.flatten=wl L∧∀ n∈L,n<18446744073709551616:=by
 induction ps with
 |nil=>exact ⟨[],rfl,rfl,fun _ h=>(by cases h)⟩
 |cons p ps ih =>
  obtain ⟨n,rfl,hn⟩:=h p (List.mem_cons_self ..)
  obtain ⟨L,h1,h2,h3⟩:=ih fun q hq=>h q (List.mem_cons_of_mem _ hq)
  refine ⟨n::L,by simp [h1],?_,fun m hm=>?_⟩
  ·rw [List.flatten_cons,h2]
   simp [wl]
  ·rcases List.mem_cons.1 hm with rfl|hm
   ·exact hn
   ·exact h3 m hm
theorem argC_digest {k:Nat} {cs:List AVal} (h:ArgC Tryz.prog (k+2) 34 cs):∃ L:List UInt8,cs=bl L∧L.length=32:=by
 unfold ArgC at h
 rw [Tryz.underlying34] at h
 obtain ⟨qs,rfl,hl,hq⟩:=h
 obtain ⟨L,hL,hf⟩:=flat_bytes qs (fun p hp=>argC_int Tryz.underlying5 (hq p hp))
 exact ⟨L,hf,by omega⟩
theorem argC_granule {k:Nat} {cs:List AVal} (h:ArgC Tryz.prog (k+2) 44 cs):∃ L:List UInt8,cs=bl L∧L.length=128:=by
 unfold ArgC at h
 rw [Tryz.underlying44] at h
 obtain ⟨qs,rfl,hl,hq⟩:=h
 obtain ⟨L,hL,hf⟩:=flat_bytes qs (fun p hp=>argC_int Tryz.underlying5 (hq p hp))
 exact ⟨L,hf,by omega⟩
theorem argC_regs {k:Nat} {cs:List AVal} (h:ArgC Tryz.prog (k+2) 45 cs):∃ L:List Nat,cs=wl L∧L.length=8∧∀ n∈L,n<18446744073709551616:=by
 unfold ArgC at h
 rw [Tryz.underlying45] at h
 obtain ⟨qs,rfl,hl,hq⟩:=h
 obtain ⟨L,hL,hf,hb⟩:=flat_words qs (fun p hp=>argC_u64 (hq p hp))
 exact ⟨L,hf,by omega,hb⟩
theorem argC_recp {k:Nat} {cs:List AVal} (h:ArgC Tryz.prog (k+3) 47 cs):∃ r:Rp,cs=rpC r∧r.Ok:=by
 unfold ArgC at h
 rw [Tryz.underlying47] at h
 obtain ⟨ps,rfl,hps⟩:=h
 cases hps with
 |cons p1 t1 =>
 cases t1 with
 |cons p2 t2 =>
 cases t2 with
 |cons p3 t3 =>
 cases t3
 obtain ⟨pc,rfl,hpc⟩:=argC_u64 p1
 obtain ⟨rg,rfl,hl,hb⟩:=argC_regs p2
 obtain ⟨rn,rfl⟩:=argC_bool p3
 exact ⟨⟨pc,rg,rn⟩,by simp [rpC],⟨hl,hb,hpc⟩⟩
theorem argC_act {k:Nat} {cs:List AVal} (h:ArgC Tryz.prog (k+5) 49 cs):∃ a:Act,cs=actC a∧a.Ok:=by
 unfold ArgC at h
 rw [Tryz.underlying49] at h
 obtain ⟨ps,rfl,hps⟩:=h
 cases hps with
 |cons p1 t1 =>
 cases t1 with
 |cons p2 t2 =>
 cases t2 with
 |cons p3 t3 =>
 cases t3 with
 |cons p4 t4 =>
 cases t4 with
 |cons p5 t5 =>
 cases t5 with
 |cons p6 t6 =>
 cases t6 with
 |cons p7 t7 =>
 cases t7 with
 |cons p8 t8 =>
 cases t8
 obtain ⟨kd,rfl,_⟩:=argC_int Tryz.underlying3 p1
 obtain ⟨rd,rfl,_⟩:=argC_int Tryz.underlying3 p2
 obtain ⟨rt,rfl,_⟩:=argC_int Tryz.underlying3 p3
 obtain ⟨pg,rfl,_⟩:=argC_int Tryz.underlying3 p4
 unfold ArgC at p5
 rw [Tryz.underlying42] at p5
 obtain ⟨us,rfl,hus⟩:=p5
 cases hus with
 |cons u1 v1 =>
 cases v1 with
 |cons u2 v2 =>
 cases v2
 obtain ⟨v,rfl,hv⟩:=argC_digest u1
 obtain ⟨nd,rfl,_⟩:=argC_u64 u2
 obtain ⟨t,rfl,ht⟩:=argC_digest p6
 obtain ⟨g,rfl,hg⟩:=argC_granule p7
 obtain ⟨r,rfl,hr⟩:=argC_recp p8
 exact ⟨⟨kd,rd,rt,pg,v,nd,t,g,r⟩,by simp [actC],⟨hv,ht,hg,hr⟩⟩
theorem list_els {α:Type} {k:Nat} {t:TypeId} (enc:α→List AVal) (Ok:α→Prop) (hw:∀ x,wrapA Tryz.prog t (enc x) = .agg (enc x)) (he:∀ cs,ArgC Tryz.prog k t cs→∃ x,cs=enc x∧Ok x) :
  ∀ xs:List (List AVal),(∀ x∈xs,ArgC Tryz.prog k t x)→∃ l:List α,xs.map (wrapA Tryz.prog t)=gls enc l∧l.length=xs.length∧∀ x∈l,Ok x
 |[],_=>⟨[],rfl,rfl,fun _ h=>by cases h⟩
 |x::xs,h=>by
  obtain ⟨l,h1,h2,h3⟩:=list_els enc Ok hw he xs fun y hy=>h y (List.mem_cons_of_mem _ hy)
  obtain ⟨p,rfl,hp⟩:=he _ (h x (List.mem_cons_self ..))
  refine ⟨p::l,?_,by simp [h2],fun c hc=>?_⟩
  ·rw [List.map_cons,h1,hw];rfl
  ·rcases List.mem_cons.1 hc with rfl|hc
   ·exact hp
   ·exact h3 c hc
theorem arg_acts {v:AVal} (h:ArgV Tryz.prog 9 22 v):∃ (l:List Act) (nl:Bool),v = .sl 207 nl (gls actC l) .any∧(∀ a∈l,a.Ok)∧l.length≤9223372036854775807∧(nl=true→l=[]):=by
 obtain ⟨cs,rfl,h⟩:=h
 unfold ArgC at h
 rw [Tryz.underlying22] at h
 obtain ⟨nl,xs,rfl,hn,hl,hx⟩:=h
 obtain ⟨l,h1,h2,h3⟩:=list_els (k:=8) (t:=49) actC Act.Ok (fun x=>by unfold wrapA;rw [Tryz.underlying49]) (fun cs h=>argC_act (k:=3) h) xs hx
 refine ⟨l,nl,?_,h3,by rw [h2];exact hl,fun h=>?_⟩
 ·unfold wrapA
  rw [Tryz.underlying22]
  show AVal.sl (Tryz.prog.cellsOf 49) nl (xs.map (wrapA Tryz.prog 49)) .any=_
  rw [h1,show Tryz.prog.cellsOf 49=207 by kernel_rfl]
 ·have:=hn h
  subst this
  exact List.length_eq_zero_iff.1 h2
theorem trodAll_lengths {H:Type} {enc:TypeId × Value→H} {P:Program} {w:World} {base:Nat} {sp:Nat→Bool} {hd:Bool}:∀ {ts:List TypeId} {vs:List Value} {ds:List (DataW H)} {ps:List MemPlace},DataW.TrodAll enc P w base sp hd ts vs ds ps→ds.length=ts.length
 |[],[],[],_,_=>rfl
 |t::ts,v::vs,d::ds,_,h=>by
  obtain ⟨p,q,_,h2,_⟩:=h
  simp [trodAll_lengths h2]
 |[],[],_::_,_,h=>h.elim
 |_::_,[],_,_,h=>h.elim
 |[],_::_,_,_,h=>h.elim
 |_::_,_::_,[],_,h=>h.elim
def slicesB (P:Program):Bool:=(List.range P.types.size).all fun t=>match P.underlying t with
 |some (.slice e)=>Nat.blt 0 (P.cellsOf e)
 |_=>true
theorem slicesB_ok {P:Program} (h:slicesB P=true) {t e:TypeId} (ht:t<P.types.size) (he:P.underlying t=some (.slice e)):0<P.cellsOf e:=by
 have:=List.all_eq_true.1 h t (List.mem_range.2 ht)
 rw [he] at this
 exact blt_iff.1 this
end Go.Am
namespace Go.Proofs.YteemcehaekffeaaGreat
theorem own:ownKnob Tryz.prog.godebug=none:=by kernel_rfl
theorem laidOut:laidOutB Tryz.prog=true:=by kernel_rfl
theorem rowed:mapsRowed Tryz.prog=true:=by kernel_rfl
theorem sliced:Go.Am.slicesB Tryz.prog=true:=by kernel_rfl
end Go.Proofs.YteemcehaekffeaaGreat
end
