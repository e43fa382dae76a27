/- RealmMeasures: the law. (nofull) -/
import Derived.Test.YteemcehaekffeaaGreatO50
import Derived.Test.YteemcehaekffeaaGreatAmMapW
import Derived.Test.YteemcehaekffeaaGreatAmCut
set_option linter.unusedVariables false
set_option linter.unusedSimpArgs false
namespace Go.Am
open Go Go.Proofs
set_option maxHeartbeats 60000000
set_option maxRecDepth 100000
section
attribute [local irreducible] aC aL thenQ blockQ scopeQ ALoop AWp
structure MS where
 k:Nat
 S:St
 L:List It
 last:Nat
 rs:Rs
 c:Nat
 b:Nat
 all:AVal
 seen:List Nat
structure MI (l:List Act) (s:MS):Prop where
 k:s.k≤l.length
 sim:Sim s.k s.S s.L s.last s.rs s.c s.b s.all
 p13:s.S[13]? = some (.cells [.ptr 3 0,.ptr 8 0,.ptr 10 0] 28)
 p14:s.S[14]? = some (.grow s.seen.length 1 31)
 sn:∀ i∈s.seen,i≤s.last
 sl:s.seen.length≤s.k
theorem beg_sim2:Sim 0 (begS++[.cells [.ptr 3 0,.ptr 8 0,.ptr 10 0] 28,.grow 0 1 31]) [] 0 [] 0 0 (.sl 1 true [] .any) :=
 (⟨beg_rz,beg_ref,fun _ h=>(by cases h),Nat.le_refl _,Nat.le_refl _,Nat.le_refl _,fun _ h=>(by cases h),.nil,.nil⟩ : Sim 0 begS [] 0 [] 0 0 (.sl 1 true [] .any)).more _
theorem do_any {n:Nat} {S:St} {L:List It} {last:Nat} {rs:Rs} {c b:Nat} {all:AVal} (h:Sim n S L last rs c b all) (hn:n≤100) {a:Act} (ha:a.Ok):∃ (S':St) (L':List It) (last':Nat) (rs':Rs) (c' b':Nat) (all':AVal),ACall cx 11 [.agg [.ptr 3 0,.ptr 8 0,.ptr 10 0],.agg (actC a)] S (.bool true) S'∧Far S S'∧Sim (n+1) S' L' last' rs' c' b' all'∧Stays a.rd rs rs'∧last≤last':=by
 by_cases hk:a.kind=7
 ·have hS13:13≤S.length:=by have:=h.rf.orc.lt;omega
  rcases hr:at? rs a.rd with _|p
  ·obtain ⟨S1,S2,L',last',rs',c',b',all',h1,f1,h2,f2,hs,hst,e1,_⟩:=done_next_none (h.more [.cells [.ptr 3 0,.ptr 8 0,.ptr 10 0] 28,.cells (actC a) 49]) hn hr
   exact ⟨S2,L',last',rs',c',b',all',do_7_by hS13 ha hk f1 h1 h2,(Far.app S _).trans (f1.trans f2),hs,hst,Nat.le_of_eq e1.symm⟩
  ·obtain ⟨e,he,_,_⟩:=at_some hr
   obtain ⟨S1,S2,L',last',rs',c',b',all',h1,f1,h2,f2,hs,hst,e1,_⟩:=done_next (h.more [.cells [.ptr 3 0,.ptr 8 0,.ptr 10 0] 28,.cells (actC a) 49]) hn hr he
   exact ⟨S2,L',last',rs',c',b',all',do_7_by hS13 ha hk f1 h1 h2,(Far.app S _).trans (f1.trans f2),hs,hst,Nat.le_of_eq e1.symm⟩
 ·obtain ⟨S',L',last',rs',c',b',all',h1,h2,h3,h4,h5⟩:=do_all h hn ha
  exact ⟨S',L',last',rs',c',b',all',h1,h2,h3,h4,(h5 hk).1⟩
theorem wl_getD {seen:List Nat} {j:Nat} (h:j<seen.length):(wl seen).getD j .any = .int .u64 (seen.getD j 0:Nat):=by simp [wl,List.getD,h]
def MM (l:List Act) (nl:Bool) (k s:Nat) (W:List AVal) (ew:Int) (rs:Rs) (rd:Int) (fr:Fr) (T:St):Prop :=
 ∃ (L':List It) (last':Nat) (rs':Rs) (c' b':Nat) (all':AVal) (seen':List Nat),fr.get 0 = .sl 207 nl (gls actC l) .any∧fr.get 3 = .ptr 13 0∧fr.get 4 = .sl 1 (decide (seen'=[])) (wl seen') (.grow 14)∧fr.get 5 = .int .i64 k∧fr.get 6 = .ptr s 0∧fr.get 7 = .int .i64 ew ∧
  Sim (k+1) T L' last' rs' c' b' all'∧T[13]? = some (.cells [.ptr 3 0,.ptr 8 0,.ptr 10 0] 28)∧T[14]? = some (.grow seen'.length 1 31)∧T[s]? = some (.cells W 37)∧Stays rd rs rs'∧(∀ i∈seen',i≤last')∧seen'.length≤k+1
theorem create_any {n:Nat} {S:St} {L:List It} {last:Nat} {rs:Rs} {c b:Nat} {all:AVal} (h:Sim n S L last rs c b all) (hn:n≤100) {a:Act} (ha:a.Ok):∃ (R:Rm) (er:Int) (S1:St),R.Ok∧S1.length=S.length ∧
  (∀ Q:St,ACall cx 9 [.ptr 8 0,.int .i64 a.rd,.int .i64 a.root,.agg (bl a.v++[.int .u64 a.nodes]),.agg (bl a.t)] (S++Q) (.tup [.agg (rmC R),.int .i64 er]) (S1++Q))∧Far S S1 ∧
  ∀ Q:St,∃ (S2:St) (L':List It) (last':Nat) (rs':Rs) (c' b':Nat) (all':AVal),ACall cx 10 [.ptr 10 0,.int .i64 a.rd,.int .i64 a.root,.agg (bl a.v++[.int .u64 a.nodes]),.agg (bl a.t)] (S1++Q) (.tup [.agg (rmC R),.int .i64 er]) S2∧Far (S1++Q) S2∧Sim (n+1) S2 L' last' rs' c' b' all'∧Stays a.rd rs rs'∧last≤last'∧(er=0→R.inst=last+1∧last'=last+1):=by
 have hrl:=h.rl
 by_cases hb:a.rd<0∨a.root<0
 ·exact ⟨zRm,2,S,zRm_ok,rfl,fun Q=>realm_create_arg (h.rz.rms.more Q) hb ha.v ha.t,Far.refl S,fun Q=>⟨S++Q,L,last,rs,c,b,all,ref_create_arg (h.more Q).rf hb ha.v ha.t,Far.refl _,(h.more Q).idle,Stays.refl _ _,Nat.le_refl _,fun k=>absurd k (by decide)⟩⟩
 ·have h0:0≤a.rd:=by omega
  have h1:0≤a.root:=by omega
  rcases hr:at? rs a.rd with _|p
  ·obtain ⟨S1,L',c',R,hl,hp,hf,hq,hst,hi,_,_,hok,_⟩:=done_create h hn hr h0 h1 (nodes:=a.nodes) ha.v ha.t
   refine ⟨R,0,S1,hok,hl,hp,hf,fun Q=>?_⟩
   obtain ⟨S2,b',all',k1,k2,k3⟩:=hq Q
   exact ⟨S2,L',last+1,_,c',b',all',k1,k2,k3,hst,Nat.le_succ _,fun _=>⟨hi,rfl⟩⟩
  ·obtain ⟨e,he,_,_⟩:=at_some hr
   exact ⟨zRm,7,S,zRm_ok,rfl,fun Q=>realm_create_state (h.rz.rms.more Q) h0 h1 hr he ha.v ha.t,Far.refl S,fun Q=>⟨S++Q,L,last,rs,c,b,all,ref_create_state (h.more Q).rf (by omega) h0 h1 hr ha.v ha.t,Far.refl _,(h.more Q).idle,Stays.refl _ _,Nat.le_refl _,fun k=>absurd k (by decide)⟩⟩
theorem law_measures (l:List Act) (nl:Bool) (hl:∀ a∈l,a.Ok) (hlen:l.length≤9223372036854775807):APure cx 3 [.sl 207 nl (gls actC l) .any] (.bool true):=by
 have hgl:(gls actC l).length=l.length:=length_gls _ _
 have hknown:=law_known
 by_cases h60:60<l.length
 ·have h60':(60:Int)<(l.length:Int):=by omega
  refine pure_fnK cxOk Tryz.func3 (fun _=>false) (fe3.q) (by kernel_rfl) (by dsimp only [Tryz.f3,go_sem,seval,liteO,Option.map,List.map];exact .mk _) ?_
  dsimp only [Tryz.f3,frame0,List.zipIdx,List.map,Nat.reduceAdd]
  repeat' (first|refine aC_seq ?_|refine aC_reg rfl ?_|refine aC_ret ?_|refine thenQ_normal ?_|refine thenQ_ret ?_|refine aL_nil ?_|(apply aL_step;(·exact True.intro);(iterate 2 (·simp (disch:=first|omega|(simp only [go_sem];omega)) only [go_sem,seval,hgl,h60',decide_true]<;>with_reducible rfl));(·simp only [go_sem]<;>with_reducible rfl))|(refine aC_condT ?_ ?_;(·simp (disch:=first|omega|(simp only [go_sem];omega)) only [go_sem,seval]))|(apply aL_pK cxG (hknown);(iterate 2 (·simp (disch:=first|omega|(simp only [go_sem];omega)) only [go_sem,seval]<;>with_reducible rfl));(·simp only [go_sem]<;>with_reducible rfl);(·simp))|fail)
  all_goals try (first|exact True.intro|exact not_false|omega|(simp (disch:=first|omega|(simp only [go_sem];omega)) only [go_sem,seval]<;>omega))
  all_goals try (simp (disch:=first|omega|(simp only [go_sem];omega)) only [go_sem,seval])
  all_goals try simp
 ·have h60':¬ (60:Int)<(l.length:Int):=by omega
  have hbeg:=beg_ok
  have hbl:=begS_len
  have zl:(.int .u64 0 :: .int .i64 0 :: .int .i64 0 :: .int .u64 0::(bl [0,0,0,0,0,0,0,0,0,0,0,0,0,0,0,0,0,0,0,0,0,0,0,0,0,0,0,0,0,0,0,0]++(AVal.sl 1 true [] .any::(bl [0,0,0,0,0,0,0,0,0,0,0,0,0,0,0,0,0,0,0,0,0,0,0,0,0,0,0,0,0,0,0,0]++(AVal.int .u64 0::(bl [0,0,0,0,0,0,0,0,0,0,0,0,0,0,0,0,0,0,0,0,0,0,0,0,0,0,0,0,0,0,0,0]++[AVal.int .i64 0])))))).length=103:=rfl
  have z0:putCells (.int .u64 0 :: .int .i64 0 :: .int .i64 0 :: .int .u64 0::(bl [0,0,0,0,0,0,0,0,0,0,0,0,0,0,0,0,0,0,0,0,0,0,0,0,0,0,0,0,0,0,0,0]++(AVal.sl 1 true [] .any::(bl [0,0,0,0,0,0,0,0,0,0,0,0,0,0,0,0,0,0,0,0,0,0,0,0,0,0,0,0,0,0,0,0]++(AVal.int .u64 0::(bl [0,0,0,0,0,0,0,0,0,0,0,0,0,0,0,0,0,0,0,0,0,0,0,0,0,0,0,0,0,0,0,0]++[AVal.int .i64 0])))))) 0 (.int .u64 0 :: .int .i64 0 :: .int .i64 0 :: .int .u64 0::(bl [0,0,0,0,0,0,0,0,0,0,0,0,0,0,0,0,0,0,0,0,0,0,0,0,0,0,0,0,0,0,0,0]++(AVal.sl 1 true [] .any::(bl [0,0,0,0,0,0,0,0,0,0,0,0,0,0,0,0,0,0,0,0,0,0,0,0,0,0,0,0,0,0,0,0]++(AVal.int .u64 0::(bl [0,0,0,0,0,0,0,0,0,0,0,0,0,0,0,0,0,0,0,0,0,0,0,0,0,0,0,0,0,0,0,0]++[AVal.int .i64 0]))))))=(.int .u64 0 :: .int .i64 0 :: .int .i64 0 :: .int .u64 0::(bl [0,0,0,0,0,0,0,0,0,0,0,0,0,0,0,0,0,0,0,0,0,0,0,0,0,0,0,0,0,0,0,0]++(AVal.sl 1 true [] .any::(bl [0,0,0,0,0,0,0,0,0,0,0,0,0,0,0,0,0,0,0,0,0,0,0,0,0,0,0,0,0,0,0,0]++(AVal.int .u64 0::(bl [0,0,0,0,0,0,0,0,0,0,0,0,0,0,0,0,0,0,0,0,0,0,0,0,0,0,0,0,0,0,0,0]++[AVal.int .i64 0])))))):=o_put0 rfl
  have z99:(bl [0,0,0,0,0,0,0,0,0,0,0,0,0,0,0,0,0,0,0,0,0,0,0,0,0,0,0,0,0,0,0,0]++(AVal.sl 1 true [] .any::(bl [0,0,0,0,0,0,0,0,0,0,0,0,0,0,0,0,0,0,0,0,0,0,0,0,0,0,0,0,0,0,0,0]++(AVal.int .u64 0::(bl [0,0,0,0,0,0,0,0,0,0,0,0,0,0,0,0,0,0,0,0,0,0,0,0,0,0,0,0,0,0,0,0]++[AVal.int .i64 0]))))).take 99=(bl [0,0,0,0,0,0,0,0,0,0,0,0,0,0,0,0,0,0,0,0,0,0,0,0,0,0,0,0,0,0,0,0]++(AVal.sl 1 true [] .any::(bl [0,0,0,0,0,0,0,0,0,0,0,0,0,0,0,0,0,0,0,0,0,0,0,0,0,0,0,0,0,0,0,0]++(AVal.int .u64 0::(bl [0,0,0,0,0,0,0,0,0,0,0,0,0,0,0,0,0,0,0,0,0,0,0,0,0,0,0,0,0,0,0,0]++[AVal.int .i64 0]))))):=by rfl
  refine pure_fnK cxOk Tryz.func3 (fun _=>false) (fe3.q) (by kernel_rfl) (by dsimp only [Tryz.f3,go_sem,seval,liteO,Option.map,List.map];exact .mk _) ?_
  dsimp only [Tryz.f3,frame0,List.zipIdx,List.map,Nat.reduceAdd]
  repeat' (first|refine aC_seq ?_|refine aC_reg rfl ?_|refine aC_block ?_|refine aC_skip ?_|refine aC_loop ?_|refine thenQ_normal ?_|refine aL_nil ?_|(apply aL_step;(·exact True.intro);(iterate 2 (·simp (disch:=first|omega|(simp only [go_sem];omega)) only [go_sem,seval,hgl,h60',hbl,decide_false]<;>with_reducible rfl));(·simp only [go_sem]<;>with_reducible rfl))|(refine aC_condF ?_ ?_;(·simp (disch:=first|omega|(simp only [go_sem];omega)) only [go_sem,seval]))|(apply aL_aK (hbeg);(·rfl);(iterate 2 (·simp (disch:=first|omega|(simp only [go_sem];omega)) only [go_sem,seval]<;>with_reducible rfl));(·simp only [go_sem]<;>with_reducible rfl))|fail)
  ·refine loop_rule (cxOk.wp _ _) (σ:=MS) (fun s=>[(5,.int .i64 s.k),(4,.sl 1 (decide (s.seen=[])) (wl s.seen) (.grow 14)),(3,.ptr 13 0),(0,.sl 207 nl (gls actC l) .any)])
    (fun s=>s.S) (fun s=>l.length-s.k) (MI l) ⟨0,begS++[.cells [.ptr 3 0,.ptr 8 0,.ptr 10 0] 28,.grow 0 1 31],[],0,[],0,0,.sl 1 true [] .any,[]⟩ (GStep.nil 4 1 31 rfl) ⟨⟨Nat.zero_le _,beg_sim2,rfl,rfl,fun _ h=>(by cases h),Nat.le_refl _⟩,?_,?_⟩ ?_
   ·exact Sub.of_all (by simp [Fr.get,hbl,wl])
   ·simp
   intro s hs
   obtain ⟨k,S,L,last,rs,c,b,all,seen⟩:=s
   have hk:=hs.k
   have hp13:=hs.p13
   have hp14:=hs.p14
   have hsim:=hs.sim
   have hsn:=hs.sn
   have hsl:=hs.sl
   simp only at hk hp13 hp14 hsim hsn hsl
   by_cases hlt:k<l.length
   ·have hlt':((k:Nat):Int)<(l.length:Int):=by omega
    have hS14:14<S.length:=(List.getElem?_eq_some_iff.1 hp14).1
    have hg:=getD_gls actC l ⟨0,0,0,0,[],0,[],[],⟨0,[],false⟩⟩ k .any hlt
    have hx:=hl (l.getD k ⟨0,0,0,0,[],0,[],[],⟨0,[],false⟩⟩) (by rw [show l.getD k ⟨0,0,0,0,[],0,[],[],⟨0,[],false⟩⟩=l[k] by simp [List.getD,hlt]];exact List.getElem_mem hlt)
    generalize l.getD k ⟨0,0,0,0,[],0,[],[],⟨0,[],false⟩⟩=a at *
    have hal:=length_actC hx
    have hat:(actC a).take 207=actC a:=List.take_of_length_le (by omega)
    have a1:=act_1 a
    have a2:=act_2 a
    have a3:=act_3 a
    have a5:=act_5 hx
    have a6:=act_6 hx
    have hsm:∀ {S':St} {L':List It} {last':Nat} {rs':Rs} {c' b':Nat} {all':AVal} {seen':List Nat} (R:St),Sim (k+1) S' L' last' rs' c' b' all'→S'[13]? = some (.cells [.ptr 3 0,.ptr 8 0,.ptr 10 0] 28)→S'[14]? = some (.grow seen'.length 1 31)→(∀ i∈seen',i≤last')→seen'.length≤k+1→MI l ⟨k+1,S'++R,L',last',rs',c',b',all',seen'⟩:=fun R h1 h2 h3 h4 h5 =>
     ⟨hlt,h1.more R,by show (_++R)[13]? = _;rw [List.getElem?_append_left (List.getElem?_eq_some_iff.1 h2).1];exact h2,by show (_++R)[14]? = _;rw [List.getElem?_append_left (List.getElem?_eq_some_iff.1 h3).1];exact h3,h4,h5⟩
    obtain ⟨W,ew,stw,mw,hget,hWl,hWo,hW1,hW4,hmw,hwas⟩:=get_any hsim (by omega) a.rd
    have hWt:W.take 103=W:=List.take_of_length_le (by omega)
    have hk60:k≤60:=by omega
    repeat' (first|refine aC_seq ?_|refine aC_reg rfl ?_|refine aC_block ?_|refine aC_skip ?_|refine thenQ_normal ?_|refine aL_nil ?_|(apply aL_step;(·exact True.intro);(iterate 2 (·simp (disch:=first|omega|(simp only [go_sem];omega)) only [go_sem,seval,hgl,hlt',decide_true]<;>with_reducible rfl));(·simp only [go_sem]<;>with_reducible rfl))|(refine aC_condT ?_ ?_;(·simp (disch:=first|omega|(simp only [go_sem];omega)) only [go_sem,seval]))|fail)
    refine aC_regH (U:=[(some 28,some 6),(some 33,some 6)]) rfl [(some 28,13)] [(S.length,.cells (.int .u64 0 :: .int .i64 0 :: .int .i64 0 :: .int .u64 0::(bl [0,0,0,0,0,0,0,0,0,0,0,0,0,0,0,0,0,0,0,0,0,0,0,0,0,0,0,0,0,0,0,0]++(AVal.sl 1 true [] .any::(bl [0,0,0,0,0,0,0,0,0,0,0,0,0,0,0,0,0,0,0,0,0,0,0,0,0,0,0,0,0,0,0,0]++(AVal.int .u64 0::(bl [0,0,0,0,0,0,0,0,0,0,0,0,0,0,0,0,0,0,0,0,0,0,0,0,0,0,0,0,0,0,0,0]++[AVal.int .i64 0])))))) 37)] 1 ?_
    repeat' (first|refine aLH_nil ?_|(apply aLH_step;(·exact True.intro);(·rfl);(·rfl);(·simp (disch:=first|omega|(simp only [go_sem];omega)) only [go_sem,seval]);(·simp (disch:=first|omega|(simp only [go_sem];omega)) only [go_sem,seval,hgl,hg,hal,a2,hp13]<;>with_reducible rfl);(·simp only [go_sem]<;>with_reducible rfl);(·(intro b hb;first|(cases hb;done)|(simp (disch:=first|omega|(simp only [go_sem];omega)) only [loadBox,go_sem,seval] at hb;(try injection hb with hb);subst hb;simp))))|(apply aLH_write;(·exact True.intro);(·rfl);(·rfl);(·rfl);(·simp (disch:=first|omega|(simp only [go_sem];omega)) only [go_sem,seval]);(·simp (disch:=first|omega|(simp only [go_sem];omega)) only [go_sem,seval,zl,hWl,o_put0]<;>with_reducible rfl);(·simp only [go_sem]<;>with_reducible rfl);(·first|(intro e he;simp only [List.mem_cons,List.not_mem_nil,or_false] at he;subst he;simp (disch:=first|omega|(simp only [go_sem];omega)) only [go_sem,seval];(try simp only [Option.some.injEq,reduceCtorEq,not_false_eq_true]);done)|(simp;done));(·first|(intro e he;simp only [List.mem_cons,List.not_mem_nil,or_false] at he;subst he;simp (disch:=first|omega|(simp only [go_sem];omega)) only [go_sem,seval];(try simp only [Option.some.injEq,reduceCtorEq,not_false_eq_true]);done)|(simp;done));(·first|(intro e _ hU;simp only [List.mem_cons,Prod.mk.injEq,reduceCtorEq,and_false,or_false,List.not_mem_nil] at hU;done)|simp))|(apply aLH_callR hget [.hole];(case hp=>(rfl));(case hlen=>(first|assumption|(simp (disch:=first|omega|(simp only [go_sem];omega)) only [go_sem,seval])));(case hT=>(first|rfl|(simp only [List.append_assoc,List.cons_append,List.nil_append];done)|(simp only [List.append_assoc,List.cons_append,List.nil_append];rfl)));(case hg=>(simp (disch:=first|omega|(simp only [go_sem];omega)) only [go_sem,seval]));(case hx=>(simp (disch:=first|omega|(simp only [go_sem];omega)) only [go_sem,seval]<;>with_reducible rfl));(case ha=>(simp (disch:=first|omega|(simp only [go_sem];omega)) only [go_sem,seval]<;>with_reducible rfl));(case he=>(with_reducible rfl));(case hf=>(simp only [go_sem]<;>with_reducible rfl));(case hT'=>(first|(simp only [List.append_assoc,List.cons_append,List.nil_append];with_reducible rfl)|rfl));(case hHs=>(first|(simp;done)|(simp;omega)));(case hB=>(simp)))|(apply aLH_alloc S.length;(case hg=>(simp (disch:=first|omega|(simp only [go_sem];omega)) only [go_sem,seval]));(case hi=>(simp (disch:=first|omega|(simp only [go_sem];omega)) only [go_sem,seval]<;>with_reducible rfl));(case hs=>(simp (disch:=first|omega|(simp only [go_sem];omega)) only [go_sem,seval]<;>with_reducible rfl));(case hS=>(simp (disch:=first|omega|(simp only [go_sem];omega)) only [go_sem,seval]<;>with_reducible rfl));(case hf=>(simp only [go_sem]<;>with_reducible rfl));(case hH=>(simp));(case hk=>(first|(simp;done)|(intro e he _;simp only [List.mem_cons,List.not_mem_nil,or_false] at he;(repeat' (obtain he|he:=(he:_∨_)));all_goals (subst he;simp (disch:=first|omega|(simp only [go_sem];omega)) only [go_sem,seval,hp13])))))|fail)
    refine thenQ_normal ?_
    refine aC_seq ?_
    refine aC_cut (MM l nl k S.length W ew rs a.rd) ?_ ?_
    ·have hao:=act_one a
     by_cases hk1:a.kind=1
     ·obtain ⟨R,er,S1,hRok,hS1l,hP,hf1,hQ⟩:=create_any hsim (by omega) hx
      obtain ⟨T,L',last',rs',c',b',all',hR,hf2,hsT,hst,hla,hin⟩:=hQ [.cells W 37,.cells (rmC R) 37]
      have u13:S1[13]? = some (.cells [.ptr 3 0,.ptr 8 0,.ptr 10 0] 28):=hf1.2 _ _ (Nat.le_refl _) hp13 rfl
      have u14:S1[14]? = some (.grow seen.length 1 31):=hf1.2 _ _ (by decide) hp14 rfl
      have hS1_14:14<S1.length:=by omega
      have t13:T[13]? = some (.cells [.ptr 3 0,.ptr 8 0,.ptr 10 0] 28):=hf2.2 _ _ (Nat.le_refl _) (by rw [List.getElem?_append_left (by omega)];exact u13) rfl
      have t14:T[14]? = some (.grow seen.length 1 31):=hf2.2 _ _ (by decide) (by rw [List.getElem?_append_left (by omega)];exact u14) rfl
      have tW:T[S.length]? = some (.cells W 37):=hf2.2 _ _ (by omega) (by rw [← hS1l,List.getElem?_append_right (Nat.le_refl _),Nat.sub_self];rfl) rfl
      have tR:T[S.length+1]? = some (.cells (rmC R) 37):=hf2.2 _ _ (by omega) (by rw [← hS1l,List.getElem?_append_right (by omega),Nat.add_sub_cancel_left];rfl) rfl
      have hT14:14<T.length:=(List.getElem?_eq_some_iff.1 t14).1
      have hVl:=length_rmC hRok
      have hVo:=rm_one R
      have hVt:(rmC R).take 103=rmC R:=List.take_of_length_le (by omega)
      have v1:=rm_1 R
      have hvl:a.v.length=32:=hx.v
      have htl:a.t.length=32:=hx.t
      clear hf1 hf2 hQ hget hwas hx
      generalize rmC R=V at *
      generalize actC a=A at *
      repeat' (first|refine aC_seq ?_|refine aC_reg rfl ?_|refine thenQ_normal ?_|refine aL_nil ?_|(apply aL_step;(·exact True.intro);(iterate 2 (·simp (disch:=first|omega|(simp only [go_sem];omega)) only [go_sem,seval,hgl,hg,hal,a1,hk1,decide_true]<;>with_reducible rfl));(·simp only [go_sem]<;>with_reducible rfl))|(refine aC_condT ?_ ?_;(·simp (disch:=first|omega|(simp only [go_sem];omega)) only [go_sem,seval]))|fail)
      refine aC_regH (U:=[(some 45,some 8),(some 50,some 8),(some 55,some 8),(some 60,some 8),(some 65,some 8)]) rfl [(some 45,13)] [(S.length+1,.cells (.int .u64 0 :: .int .i64 0 :: .int .i64 0 :: .int .u64 0::(bl [0,0,0,0,0,0,0,0,0,0,0,0,0,0,0,0,0,0,0,0,0,0,0,0,0,0,0,0,0,0,0,0]++(AVal.sl 1 true [] .any::(bl [0,0,0,0,0,0,0,0,0,0,0,0,0,0,0,0,0,0,0,0,0,0,0,0,0,0,0,0,0,0,0,0]++(AVal.int .u64 0::(bl [0,0,0,0,0,0,0,0,0,0,0,0,0,0,0,0,0,0,0,0,0,0,0,0,0,0,0,0,0,0,0,0]++[AVal.int .i64 0])))))) 37)] 1 ?_
      repeat' (first|refine aLH_nil ?_|(apply aLH_step;(·exact True.intro);(·rfl);(·rfl);(·simp (disch:=first|omega|(simp only [go_sem];omega)) only [go_sem,seval]);(·simp (disch:=first|omega|(simp only [go_sem];omega)) only [go_sem,seval,hgl,hg,hal,a2,a3,a5,a6,hp13]<;>with_reducible rfl);(·simp only [go_sem]<;>with_reducible rfl);(·(intro b hb;first|(cases hb;done)|(simp (disch:=first|omega|(simp only [go_sem];omega)) only [loadBox,go_sem,seval] at hb;(try injection hb with hb);subst hb;simp))))|(apply aLH_write;(·exact True.intro);(·rfl);(·rfl);(·rfl);(·simp (disch:=first|omega|(simp only [go_sem];omega)) only [go_sem,seval]);(·simp (disch:=first|omega|(simp only [go_sem];omega)) only [go_sem,seval,hS1l,zl,hVl,o_put0]<;>with_reducible rfl);(·simp only [go_sem]<;>with_reducible rfl);(·first|(intro e he;simp only [List.mem_cons,List.not_mem_nil,or_false] at he;subst he;simp (disch:=first|omega|(simp only [go_sem];omega)) only [go_sem,seval,hS1l];(try simp only [Option.some.injEq,reduceCtorEq,not_false_eq_true]);done)|(simp;done));(·first|(intro e he;simp only [List.mem_cons,List.not_mem_nil,or_false] at he;subst he;simp (disch:=first|omega|(simp only [go_sem];omega)) only [go_sem,seval,hS1l];(try simp only [Option.some.injEq,reduceCtorEq,not_false_eq_true]);done)|(simp;done));(·first|(intro e _ hU;simp only [List.mem_cons,Prod.mk.injEq,reduceCtorEq,and_false,or_false,List.not_mem_nil] at hU;done)|simp))|(apply aLH_callR hP [.cells W 37,.hole];(case hp=>(rfl));(case hlen=>(first|assumption|(simp (disch:=first|omega|(simp only [go_sem];omega)) only [go_sem,seval,hgl,hg,hal,a2,a3,a5,a6,hp13,hS1l,zl,z0,z99,hVl,hVt,o_put0])));(case hT=>(first|rfl|(simp only [List.append_assoc,List.cons_append,List.nil_append];done)|(simp only [List.append_assoc,List.cons_append,List.nil_append];rfl)));(case hg=>(simp (disch:=first|omega|(simp only [go_sem];omega)) only [go_sem,seval]));(case hx=>(simp (disch:=first|omega|(simp only [go_sem];omega)) only [go_sem,seval]<;>with_reducible rfl));(case ha=>(simp (disch:=first|omega|(simp only [go_sem];omega)) only [go_sem,seval]<;>with_reducible rfl));(case he=>(with_reducible rfl));(case hf=>(simp only [go_sem]<;>with_reducible rfl));(case hT'=>(first|(simp only [List.append_assoc,List.cons_append,List.nil_append];with_reducible rfl)|rfl));(case hHs=>(first|(simp;done)|(simp;omega)));(case hB=>(simp)))|(apply aLH_alloc (S.length+1);(case hg=>(simp (disch:=first|omega|(simp only [go_sem];omega)) only [go_sem,seval]));(case hi=>(simp (disch:=first|omega|(simp only [go_sem];omega)) only [go_sem,seval]<;>with_reducible rfl));(case hs=>(simp (disch:=first|omega|(simp only [go_sem];omega)) only [go_sem,seval,hS1l]<;>with_reducible rfl));(case hS=>(simp (disch:=first|omega|(simp only [go_sem];omega)) only [go_sem,seval,hS1l]<;>with_reducible rfl));(case hf=>(simp only [go_sem]<;>with_reducible rfl));(case hH=>(simp));(case hk=>(first|(simp;done)|(intro e he _;simp only [List.mem_cons,List.not_mem_nil,or_false] at he;(repeat' (obtain he|he:=(he:_∨_)));all_goals (subst he;simp (disch:=first|omega|(simp only [go_sem];omega)) only [go_sem,seval])))))|fail)
      by_cases he0:er=0
      ·obtain ⟨hin1,hin2⟩:=hin he0
       subst he0
       repeat' (first|refine aC_seq ?_|refine aC_reg rfl ?_|refine aC_block ?_|refine aC_loop ?_|refine thenQ_normal ?_|refine aL_nil ?_|(apply aL_step;(·exact True.intro);(iterate 2 (·simp (disch:=first|omega|(simp only [go_sem];omega)) only [go_sem,seval,hgl,hg,hal,a2,a3,a5,a6,u13,decide_true]<;>with_reducible rfl));(·simp only [go_sem]<;>with_reducible rfl))|(refine aC_condT ?_ ?_;(·simp (disch:=first|omega|(simp only [go_sem];omega)) only [go_sem,seval]))|(apply aL_aK (hR);(·rfl);(iterate 2 (·simp (disch:=first|omega|(simp only [go_sem];omega)) only [go_sem,seval]<;>with_reducible rfl));(·simp only [go_sem]<;>with_reducible rfl))|fail)
       ·refine loop_rule (cxOk.wp _ _) (σ:=Nat) (fun j=>[(10,.int .i64 j),(9,.int .i64 0),(8,.ptr (S.length+1) 0),(7,.int .i64 ew),(6,.ptr S.length 0),(5,.int .i64 k),(4,.sl 1 (decide (seen=[])) (wl seen) (.grow 14)),(3,.ptr 13 0),(0,.sl 207 nl (gls actC l) .any)])
         (fun _=>T) (fun j=>seen.length-j) (fun j=>j≤seen.length) 0 (GStep.refl _ _) ⟨Nat.zero_le _,Sub.of_all (by simp [Fr.get]),rfl⟩ ?_
        intro j hj
        have hwlen:(wl seen).length=seen.length:=by simp [wl]
        by_cases hjl:j<seen.length
        ·have hjl':((j:Nat):Int)<(seen.length:Int):=by omega
         have hwl:=wl_getD hjl
         have hsj:seen.getD j 0≤last:=hsn _ (by rw [show seen.getD j 0=seen[j] by simp [List.getD,hjl]];exact List.getElem_mem hjl)
         have hne:¬ ((seen.getD j 0:Nat):Int)=(R.inst:Int):=by omega
         generalize seen.getD j 0=sj at *
         repeat' (first|refine aC_seq ?_|refine aC_reg rfl ?_|refine aC_block ?_|refine aC_skip ?_|refine thenQ_normal ?_|refine blockQ_normal ?_|refine aL_nil ?_|(apply aL_step;(·exact True.intro);(iterate 2 (·simp (disch:=first|omega|(simp only [go_sem];omega)) only [go_sem,seval,tR,v1,hVl,hwl,hwlen,hjl',hne,decide_true,decide_false]<;>with_reducible rfl));(·simp only [go_sem]<;>with_reducible rfl))|(refine aC_condT ?_ ?_;(·simp (disch:=first|omega|(simp only [go_sem];omega)) only [go_sem,seval]))|(refine aC_condF ?_ ?_;(·simp (disch:=first|omega|(simp only [go_sem];omega)) only [go_sem,seval]))|fail)
         all_goals try (first|exact True.intro|exact not_false|omega|(simp (disch:=first|omega|(simp only [go_sem];omega)) only [go_sem,seval]<;>omega))
         all_goals try (exact ⟨j+1,by omega,Sub.of_all (by simp [Fr.get]),rfl,by omega⟩)
        ·have hj2:j=seen.length:=by omega
         subst hj2
         repeat' (first|refine aC_seq ?_|refine aC_reg rfl ?_|refine aC_exit ?_|refine thenQ_normal ?_|refine thenQ_exit ?_|refine blockQ_hit ?_|refine aL_nil ?_|(apply aL_step;(·exact True.intro);(iterate 2 (·simp (disch:=first|omega|(simp only [go_sem];omega)) only [go_sem,seval,tR,v1,hVl,hwlen,t14]<;>with_reducible rfl));(·simp only [go_sem]<;>with_reducible rfl))|(refine aC_condP (by simp (disch:=first|omega|(simp only [go_sem];omega)) only [go_sem,seval]<;>with_reducible rfl) ?_ ?_<;>(intro h;first|(exfalso;omega)|skip))|fail)
         all_goals try (first|exact True.intro|exact not_false|omega|(simp (disch:=first|omega|(simp only [go_sem];omega)) only [go_sem,seval]<;>omega))
         all_goals try (exact ⟨L',last',rs',c',b',all',seen++[R.inst],by simp [Fr.get],by simp [Fr.get],by simp [Fr.get,wl],by simp [Fr.get],by simp [Fr.get],by simp [Fr.get],hsT.setO (by decide) t14 rfl _,by rw [List.getElem?_set_ne (by decide)];exact t13,by rw [List.getElem?_set_self hT14];simp,by rw [List.getElem?_set_ne (by omega)];exact tW,hst,fun i hi=>by (rcases List.mem_append.1 hi with hi|hi);(have:=hsn i hi;omega);(have:=List.mem_singleton.1 hi;omega),by simp;omega⟩)
       all_goals try (first|exact True.intro|exact not_false|omega|(simp (disch:=first|omega|(simp only [go_sem];omega)) only [go_sem,seval]<;>omega))
      ·have he0':¬ er=0:=he0
       repeat' (first|refine aC_seq ?_|refine aC_reg rfl ?_|refine aC_skip ?_|refine thenQ_normal ?_|refine aL_nil ?_|(apply aL_step;(·exact True.intro);(iterate 2 (·simp (disch:=first|omega|(simp only [go_sem];omega)) only [go_sem,seval,hgl,hg,hal,a2,a3,a5,a6,u13,he0',decide_false]<;>with_reducible rfl));(·simp only [go_sem]<;>with_reducible rfl))|(refine aC_condF ?_ ?_;(·simp (disch:=first|omega|(simp only [go_sem];omega)) only [go_sem,seval]))|(apply aL_aK (hR);(·rfl);(iterate 2 (·simp (disch:=first|omega|(simp only [go_sem];omega)) only [go_sem,seval]<;>with_reducible rfl));(·simp only [go_sem]<;>with_reducible rfl))|fail)
       all_goals try (first|exact True.intro|exact not_false|omega|(simp (disch:=first|omega|(simp only [go_sem];omega)) only [go_sem,seval]<;>omega))
       all_goals try (exact ⟨L',last',rs',c',b',all',seen,by simp [Fr.get],by simp [Fr.get],by simp [Fr.get],by simp [Fr.get],by simp [Fr.get],by simp [Fr.get],hsT,t13,t14,tW,hst,fun i hi=>Nat.le_trans (hsn i hi) hla,by omega⟩)
      all_goals try (simp (disch:=first|omega|(simp only [go_sem];omega)) only [go_sem,seval])
      all_goals try exact ⟨Int.natCast_nonneg k,hlt⟩
      all_goals try omega
     ·obtain ⟨T,L',last',rs',c',b',all',hdo,hf,hsT,hst,hla⟩:=do_any (hsim.more [.cells W 37]) (by omega) hx
      have t13:T[13]? = some (.cells [.ptr 3 0,.ptr 8 0,.ptr 10 0] 28):=hf.2 _ _ (Nat.le_refl _) (by rw [List.getElem?_append_left (by omega)];exact hp13) rfl
      have t14:T[14]? = some (.grow seen.length 1 31):=hf.2 _ _ (by decide) (by rw [List.getElem?_append_left (by omega)];exact hp14) rfl
      have tW:T[S.length]? = some (.cells W 37):=hf.2 _ _ (by omega) (by rw [List.getElem?_append_right (Nat.le_refl _),Nat.sub_self];rfl) rfl
      have hsnT:∀ i∈seen,i≤last':=fun i hi=>Nat.le_trans (hsn i hi) hla
      have hslT:seen.length≤k+1:=by omega
      clear hf hget hwas hx
      generalize actC a=A at *
      repeat' (first|refine aC_seq ?_|refine aC_reg rfl ?_|refine thenQ_normal ?_|refine aL_nil ?_|(apply aL_step;(·exact True.intro);(iterate 2 (·simp (disch:=first|omega|(simp only [go_sem];omega)) only [go_sem,seval,hgl,hg,hal,hat,a1,hk1,hp13,decide_false]<;>with_reducible rfl));(·simp only [go_sem]<;>with_reducible rfl))|(refine aC_condF ?_ ?_;(·simp (disch:=first|omega|(simp only [go_sem];omega)) only [go_sem,seval]))|(apply aL_aK (hdo);(·rfl);(iterate 2 (·simp (disch:=first|omega|(simp only [go_sem];omega)) only [go_sem,seval]<;>with_reducible rfl));(·simp only [go_sem]<;>with_reducible rfl))|fail)
      all_goals try (first|exact True.intro|exact not_false|omega|(simp (disch:=first|omega|(simp only [go_sem];omega)) only [go_sem,seval]<;>omega))
      all_goals try (exact ⟨L',last',rs',c',b',all',seen,by simp [Fr.get],by simp [Fr.get],by simp [Fr.get],by simp [Fr.get],by simp [Fr.get],by simp [Fr.get],hsT,t13,t14,tW,hst,hsnT,hslT⟩)
    ·rintro fr T ⟨L',last',rs',c',b',all',seen2,g0,g3,g4,g5,g6,g7,hsT,t13,t14,tW,hst,hsnT,hslT⟩
     generalize actC a=A at *
     have hTl:14<T.length:=(List.getElem?_eq_some_iff.1 t14).1
     have hTW:S.length<T.length:=(List.getElem?_eq_some_iff.1 tW).1
     rcases hr2:at? rs' a.rd with _|p2
     ·have hget2:=fun R:St=>realm_get_none (hsT.rz.rms.more R) hr2
      have hn:=hsm [.cells (.int .u64 0 :: .int .i64 0 :: .int .i64 0 :: .int .u64 0::(bl [0,0,0,0,0,0,0,0,0,0,0,0,0,0,0,0,0,0,0,0,0,0,0,0,0,0,0,0,0,0,0,0]++(AVal.sl 1 true [] .any::(bl [0,0,0,0,0,0,0,0,0,0,0,0,0,0,0,0,0,0,0,0,0,0,0,0,0,0,0,0,0,0,0,0]++(AVal.int .u64 0::(bl [0,0,0,0,0,0,0,0,0,0,0,0,0,0,0,0,0,0,0,0,0,0,0,0,0,0,0,0,0,0,0,0]++[AVal.int .i64 0])))))) 37] hsT t13 t14 hsnT hslT
      have zone:=zRm_one
      unfold zRmC at hget2 zone
      have zone2:=fun x hx=>zone x (List.mem_cons_of_mem _ (List.mem_cons_of_mem _ (List.mem_cons_of_mem _ (List.mem_cons_of_mem _ hx))))
      clear hsT hget
      refine aC_seq ?_
      refine aC_regH (U:=[(some 120,some 11),(some 125,some 11)]) rfl [(some 120,13)] [(T.length,.cells (.int .u64 0 :: .int .i64 0 :: .int .i64 0 :: .int .u64 0::(bl [0,0,0,0,0,0,0,0,0,0,0,0,0,0,0,0,0,0,0,0,0,0,0,0,0,0,0,0,0,0,0,0]++(AVal.sl 1 true [] .any::(bl [0,0,0,0,0,0,0,0,0,0,0,0,0,0,0,0,0,0,0,0,0,0,0,0,0,0,0,0,0,0,0,0]++(AVal.int .u64 0::(bl [0,0,0,0,0,0,0,0,0,0,0,0,0,0,0,0,0,0,0,0,0,0,0,0,0,0,0,0,0,0,0,0]++[AVal.int .i64 0])))))) 37)] 1 ?_
      repeat' (first|refine aLH_nil ?_|(apply aLH_step;(·exact True.intro);(·rfl);(·rfl);(·simp (disch:=first|omega|(simp only [go_sem];omega)) only [go_sem,seval]);(·simp (disch:=first|omega|(simp only [go_sem];omega)) only [go_sem,seval,g0,g3,g5,hgl,hg,hal,a2,t13]<;>with_reducible rfl);(·simp only [go_sem]<;>with_reducible rfl);(·(intro b hb;first|(cases hb;done)|(simp (disch:=first|omega|(simp only [go_sem];omega)) only [loadBox,go_sem,seval] at hb;(try injection hb with hb);subst hb;simp))))|(apply aLH_write;(·exact True.intro);(·rfl);(·rfl);(·rfl);(·simp (disch:=first|omega|(simp only [go_sem];omega)) only [go_sem,seval]);(·simp (disch:=first|omega|(simp only [go_sem];omega)) only [go_sem,seval,zl,z0]<;>with_reducible rfl);(·simp only [go_sem]<;>with_reducible rfl);(·first|(intro e he;simp only [List.mem_cons,List.not_mem_nil,or_false] at he;subst he;simp (disch:=first|omega|(simp only [go_sem];omega)) only [go_sem,seval];(try simp only [Option.some.injEq,reduceCtorEq,not_false_eq_true]);done)|(simp;done));(·first|(intro e he;simp only [List.mem_cons,List.not_mem_nil,or_false] at he;subst he;simp (disch:=first|omega|(simp only [go_sem];omega)) only [go_sem,seval];(try simp only [Option.some.injEq,reduceCtorEq,not_false_eq_true]);done)|(simp;done));(·first|(intro e _ hU;simp only [List.mem_cons,Prod.mk.injEq,reduceCtorEq,and_false,or_false,List.not_mem_nil] at hU;done)|simp))|(apply aLH_callR hget2 [.hole];(case hp=>(rfl));(case hlen=>(first|assumption|(simp (disch:=first|omega|(simp only [go_sem];omega)) only [go_sem,seval])));(case hT=>(first|rfl|(simp only [List.append_assoc,List.cons_append,List.nil_append];done)|(simp only [List.append_assoc,List.cons_append,List.nil_append];rfl)));(case hg=>(simp (disch:=first|omega|(simp only [go_sem];omega)) only [go_sem,seval]));(case hx=>(simp (disch:=first|omega|(simp only [go_sem];omega)) only [go_sem,seval]<;>with_reducible rfl));(case ha=>(simp (disch:=first|omega|(simp only [go_sem];omega)) only [go_sem,seval]<;>with_reducible rfl));(case he=>(with_reducible rfl));(case hf=>(simp only [go_sem]<;>with_reducible rfl));(case hT'=>(first|(simp only [List.append_assoc,List.cons_append,List.nil_append];with_reducible rfl)|rfl));(case hHs=>(first|(simp;done)|(simp;omega)));(case hB=>(simp)))|(apply aLH_alloc T.length;(case hg=>(simp (disch:=first|omega|(simp only [go_sem];omega)) only [go_sem,seval]));(case hi=>(simp (disch:=first|omega|(simp only [go_sem];omega)) only [go_sem,seval]<;>with_reducible rfl));(case hs=>(simp (disch:=first|omega|(simp only [go_sem];omega)) only [go_sem,seval]<;>with_reducible rfl));(case hS=>(simp (disch:=first|omega|(simp only [go_sem];omega)) only [go_sem,seval]<;>with_reducible rfl));(case hf=>(simp only [go_sem]<;>with_reducible rfl));(case hH=>(simp));(case hk=>(first|(simp;done)|(intro e he _;simp only [List.mem_cons,List.not_mem_nil,or_false] at he;(repeat' (obtain he|he:=(he:_∨_)));all_goals (subst he;simp (disch:=first|omega|(simp only [go_sem];omega)) only [go_sem,seval,t13])))))|fail)
      repeat' (first|refine aC_seq ?_|refine aC_reg rfl ?_|refine aC_exit ?_|refine thenQ_normal ?_|refine thenQ_exit ?_|refine blockQ_hit ?_|refine aL_nil ?_|(apply aL_step;(·exact True.intro);(iterate 2 (·simp (disch:=first|omega|(simp only [go_sem];omega)) only [go_sem,seval,g5,decide_true]<;>with_reducible rfl));(·simp only [go_sem]<;>with_reducible rfl))|(refine aC_condT ?_ ?_;(·simp (disch:=first|omega|(simp only [go_sem];omega)) only [go_sem,seval]))|fail)
      all_goals try (first|exact True.intro|exact not_false|omega|(simp (disch:=first|omega|(simp only [go_sem];omega)) only [go_sem,seval]<;>omega))
      ·refine ⟨_,hn,Sub.of_all (by simp [Fr.get,g0,g3,g4]),rfl,?_⟩
       show l.length-(k+1)<l.length-k
       omega
     ·obtain ⟨e2,he2,_,_⟩:=at_some hr2
      have hri:=hsT.ri e2 (List.mem_of_getElem? he2)
      have hro2:=hsT.rz.rms.ok e2 (List.mem_of_getElem? he2)
      have hlg:=hri.lg
      have hlgb:e2.2.1.log.length≤100:=by omega
      have hget2:=fun R:St=>realm_get (hsT.rz.rms.more R) hr2 he2 (by omega)
      have hVl:=length_rmC hro2
      have hVo:=rm_one e2.2.1
      have hVt:(rmC e2.2.1).take 103=rmC e2.2.1:=List.take_of_length_le (by omega)
      have v2:=rm_2 e2.2.1
      have v5:=rm_5 hro2
      have v6:=rm_6 hro2
      have hm2:(bl e2.2.1.meas).length=32:=by rw [length_bl];exact hro2.m
      have hch:=hri.ch
      have hmend:=mAt_len hch
      have hne0:¬ ((e2.2.1.log.length:Nat):Int)=0:=by
       have:e2.2.1.log.length≠0:=fun k=>hri.ne (List.length_eq_zero_iff.1 k)
       omega
      have hglog:(gls rdC e2.2.1.log).length=e2.2.1.log.length:=length_gls _ _
      have hm32:∀ j,(mAt L' e2.2.1.log j zq).length=32:=fun j=>mAt_32 hsT length_zq
      have hMs:∀ (j:Nat) (r:Rcd),e2.2.1.log[j]? = some r→∀ R:St,ACall cx 12 [.ptr 10 0,.agg (bl (mAt L' e2.2.1.log j zq)),.agg (rdC r)] (T++R) (.agg (bl (mAt L' e2.2.1.log (j+1) zq))) (T++R):=fun j r hj R=>by
       obtain ⟨m1,m2,m3⟩:=mAt_step hch hj
       rw [m3]
       exact meas_any (hsT.more R) (by omega) (hm32 j) m2 m1
      have hstays:ew=0∧stw≠1→e2.2.1.meas=mw∧e2.2.1.st≠1:=fun hh=>by
       obtain ⟨p,e,h1,h2,h3,h4⟩:=hwas hh
       have:=hst p e h1 h2 h3 p2 e2 hr2 he2
       exact ⟨this.1.trans h4,this.2⟩
      have hn:=hsm [.cells (rmC e2.2.1) 37,.cells (bl e2.2.1.meas) 34] hsT t13 t14 hsnT hslT
      have sk1:skbs (bl e2.2.1.meas) (bl (List.replicate 32 0))=true:=skbs_by (by simp [hro2.m])
      have sk2:skbs (bl mw) (bl (List.replicate 32 0))=true:=skbs_by (by simp [hmw])
      have hrdk:∀ (j:Nat) (r:Rcd),e2.2.1.log[j]? = some r→(rdC r).length=172:=fun j r hj=>length_rdC (hro2.l r (List.mem_of_getElem? hj))
      have hnil:e2.2.1.nl=false:=hri.nl
      clear hsT hget hri hlg hch
      generalize rmC e2.2.1=V at *
      refine aC_seq ?_
      refine aC_regH (U:=[(some 120,some 11),(some 125,some 11)]) rfl [(some 120,13)] [(T.length,.cells (.int .u64 0 :: .int .i64 0 :: .int .i64 0 :: .int .u64 0::(bl [0,0,0,0,0,0,0,0,0,0,0,0,0,0,0,0,0,0,0,0,0,0,0,0,0,0,0,0,0,0,0,0]++(AVal.sl 1 true [] .any::(bl [0,0,0,0,0,0,0,0,0,0,0,0,0,0,0,0,0,0,0,0,0,0,0,0,0,0,0,0,0,0,0,0]++(AVal.int .u64 0::(bl [0,0,0,0,0,0,0,0,0,0,0,0,0,0,0,0,0,0,0,0,0,0,0,0,0,0,0,0,0,0,0,0]++[AVal.int .i64 0])))))) 37)] 1 ?_
      repeat' (first|refine aLH_nil ?_|(apply aLH_step;(·exact True.intro);(·rfl);(·rfl);(·simp (disch:=first|omega|(simp only [go_sem];omega)) only [go_sem,seval]);(·simp (disch:=first|omega|(simp only [go_sem];omega)) only [go_sem,seval,g0,g3,g5,hgl,hg,hal,a2,t13]<;>with_reducible rfl);(·simp only [go_sem]<;>with_reducible rfl);(·(intro b hb;first|(cases hb;done)|(simp (disch:=first|omega|(simp only [go_sem];omega)) only [loadBox,go_sem,seval] at hb;(try injection hb with hb);subst hb;simp))))|(apply aLH_write;(·exact True.intro);(·rfl);(·rfl);(·rfl);(·simp (disch:=first|omega|(simp only [go_sem];omega)) only [go_sem,seval]);(·simp (disch:=first|omega|(simp only [go_sem];omega)) only [go_sem,seval,zl,hVl,o_put0]<;>with_reducible rfl);(·simp only [go_sem]<;>with_reducible rfl);(·first|(intro e he;simp only [List.mem_cons,List.not_mem_nil,or_false] at he;subst he;simp (disch:=first|omega|(simp only [go_sem];omega)) only [go_sem,seval];(try simp only [Option.some.injEq,reduceCtorEq,not_false_eq_true]);done)|(simp;done));(·first|(intro e he;simp only [List.mem_cons,List.not_mem_nil,or_false] at he;subst he;simp (disch:=first|omega|(simp only [go_sem];omega)) only [go_sem,seval];(try simp only [Option.some.injEq,reduceCtorEq,not_false_eq_true]);done)|(simp;done));(·first|(intro e _ hU;simp only [List.mem_cons,Prod.mk.injEq,reduceCtorEq,and_false,or_false,List.not_mem_nil] at hU;done)|simp))|(apply aLH_callR hget2 [.hole];(case hp=>(rfl));(case hlen=>(first|assumption|(simp (disch:=first|omega|(simp only [go_sem];omega)) only [go_sem,seval])));(case hT=>(first|rfl|(simp only [List.append_assoc,List.cons_append,List.nil_append];done)|(simp only [List.append_assoc,List.cons_append,List.nil_append];rfl)));(case hg=>(simp (disch:=first|omega|(simp only [go_sem];omega)) only [go_sem,seval]));(case hx=>(simp (disch:=first|omega|(simp only [go_sem];omega)) only [go_sem,seval]<;>with_reducible rfl));(case ha=>(simp (disch:=first|omega|(simp only [go_sem];omega)) only [go_sem,seval]<;>with_reducible rfl));(case he=>(with_reducible rfl));(case hf=>(simp only [go_sem]<;>with_reducible rfl));(case hT'=>(first|(simp only [List.append_assoc,List.cons_append,List.nil_append];with_reducible rfl)|rfl));(case hHs=>(first|(simp;done)|(simp;omega)));(case hB=>(simp)))|(apply aLH_alloc T.length;(case hg=>(simp (disch:=first|omega|(simp only [go_sem];omega)) only [go_sem,seval]));(case hi=>(simp (disch:=first|omega|(simp only [go_sem];omega)) only [go_sem,seval]<;>with_reducible rfl));(case hs=>(simp (disch:=first|omega|(simp only [go_sem];omega)) only [go_sem,seval]<;>with_reducible rfl));(case hS=>(simp (disch:=first|omega|(simp only [go_sem];omega)) only [go_sem,seval]<;>with_reducible rfl));(case hf=>(simp only [go_sem]<;>with_reducible rfl));(case hH=>(simp));(case hk=>(first|(simp;done)|(intro e he _;simp only [List.mem_cons,List.not_mem_nil,or_false] at he;(repeat' (obtain he|he:=(he:_∨_)));all_goals (subst he;simp (disch:=first|omega|(simp only [go_sem];omega)) only [go_sem,seval,t13])))))|fail)
      repeat' (first|refine aC_seq ?_|refine aC_reg rfl ?_|refine aC_block ?_|refine aC_skip ?_|refine aC_loop ?_|refine thenQ_normal ?_|refine aL_nil ?_|(apply aL_step;(·exact True.intro);(iterate 2 (·simp (disch:=first|omega|(simp only [go_sem];omega)) only [go_sem,seval,o_put0,decide_false]<;>with_reducible rfl));(·simp only [go_sem]<;>with_reducible rfl))|(refine aC_condF ?_ ?_;(·simp (disch:=first|omega|(simp only [go_sem];omega)) only [go_sem,seval]))|fail)
      ·refine loop_rule (cxOk.wp _ _) (σ:=Nat) (fun j=>[(14,.int .i64 j),(13,.ptr (T.length+1) 0),(11,.ptr T.length 0),(7,.int .i64 ew),(6,.ptr S.length 0),(5,.int .i64 k),(4,.sl 1 (decide (seen2=[])) (wl (seen2)) (.grow 14)),(3,.ptr 13 0),(0,.sl 207 nl (gls actC l) .any)])
        (fun j=>T++[.cells V 37,.cells (bl (mAt L' e2.2.1.log j zq)) 34]) (fun j=>e2.2.1.log.length-j) (fun j=>j≤e2.2.1.log.length) 0 (GStep.refl _ _) ⟨Nat.zero_le _,Sub.of_all (by simp [Fr.get,g0,g3,g4,g5,g6,g7]),by first|rfl|(simp [mAt,zq];done)|(cases e2.2.1.log<;>rfl)⟩ ?_
       intro j hj
       by_cases hjl:j<e2.2.1.log.length
       ·have hjl':((j:Nat):Int)<(e2.2.1.log.length:Int):=by omega
        have hrec:e2.2.1.log[j]? = some e2.2.1.log[j]:=by simp [hjl]
        have hgr:(gls rdC e2.2.1.log).getD j .any = .agg (rdC e2.2.1.log[j]):=by simp [gls,List.getD,hjl]
        have hMj:=hMs j _ hrec
        have hrl:=hrdk j _ hrec
        have hrt:(rdC e2.2.1.log[j]).take 172=rdC e2.2.1.log[j]:=List.take_of_length_le (by omega)
        have m1:=hm32 j
        have m2:=hm32 (j+1)
        generalize hmj:mAt L' e2.2.1.log j zq=mj at *
        generalize hmj1:mAt L' e2.2.1.log (j+1) zq=mj1 at *
        generalize rdC e2.2.1.log[j]=rr at *
        have t1:(bl mj).take 32=bl mj:=List.take_of_length_le (by rw [length_bl];omega)
        have t2:(bl mj1).take 32=bl mj1:=List.take_of_length_le (by rw [length_bl];omega)
        repeat' (first|refine aC_seq ?_|refine aC_reg rfl ?_|refine aC_block ?_|refine aC_skip ?_|refine thenQ_normal ?_|refine blockQ_normal ?_|refine aL_nil ?_|(apply aL_step;(·exact True.intro);(iterate 2 (·simp (disch:=first|omega|(simp only [go_sem];omega)) only [go_sem,seval,hjl',t13,v6,hVl,hglog,hgr,hrl,hrt,t1,m1,m2,o_put0,decide_true]<;>with_reducible rfl));(·simp only [go_sem]<;>with_reducible rfl))|(refine aC_condT ?_ ?_;(·simp (disch:=first|omega|(simp only [go_sem];omega)) only [go_sem,seval]))|(apply aL_aK (hMj _);(·rfl);(iterate 2 (·simp (disch:=first|omega|(simp only [go_sem];omega)) only [go_sem,seval]<;>with_reducible rfl));(·simp only [go_sem]<;>with_reducible rfl))|fail)
        all_goals try (first|exact True.intro|exact not_false|omega|(simp (disch:=first|omega|(simp only [go_sem];omega)) only [go_sem,seval]<;>omega))
        all_goals try (exact ⟨j+1,by omega,Sub.of_all (by simp [Fr.get]),by simp [hmj1],by omega⟩)
       ·have hj2:j=e2.2.1.log.length:=by omega
        subst hj2
        rw [hmend]
        have hm33:(bl e2.2.1.meas).take 32=bl e2.2.1.meas:=List.take_of_length_le (by omega)
        by_cases hw0:ew=0
        ·by_cases hw1:stw=1
         ·repeat' (first|refine aC_seq ?_|refine aC_reg rfl ?_|refine aC_skip ?_|refine aC_exit ?_|refine thenQ_normal ?_|refine blockQ_normal ?_|refine thenQ_exit ?_|refine blockQ_hit ?_|refine aL_nil ?_|(apply aL_step;(·exact True.intro);(iterate 2 (·simp (disch:=first|omega|(simp only [go_sem];omega)) only [go_sem,seval,v6,v5,hVl,hglog,hne0,hm2,hm33,tW,hWl,hW1,hw0,hw1,decide_true,decide_false,Bool.not_true,Bool.not_false]<;>with_reducible rfl));(·simp only [go_sem]<;>with_reducible rfl))|(refine aL_skip ?_ (by simp only [go_sem]<;>with_reducible rfl) ?_;(·simp (disch:=first|omega|(simp only [go_sem];omega)) only [go_sem,seval,hw0]))|(refine aC_condF ?_ ?_;(·simp (disch:=first|omega|(simp only [go_sem];omega)) only [go_sem,seval,hw0]))|(refine aC_condP (by simp (disch:=first|omega|(simp only [go_sem];omega)) only [go_sem,seval,hw0]<;>with_reducible rfl) ?_ ?_<;>(intro h;first|(exfalso;omega)|skip))|fail)
          all_goals try (first|exact True.intro|exact not_false|omega|(simp (disch:=first|omega|(simp only [go_sem];omega)) only [go_sem,seval]<;>omega))
          all_goals try (refine ⟨_,hn,Sub.of_all (by simp [Fr.get]),rfl,?_⟩;show l.length-(k+1)<l.length-k;omega)
          all_goals try exact ⟨by kernel_rfl,by kernel_rfl,sk1,sk1⟩
         ·obtain ⟨hq1,hq2⟩:=hstays ⟨hw0,hw1⟩
          rw [← hq1] at hW4
          repeat' (first|refine aC_seq ?_|refine aC_reg rfl ?_|refine aC_skip ?_|refine aC_exit ?_|refine thenQ_normal ?_|refine blockQ_normal ?_|refine thenQ_exit ?_|refine blockQ_hit ?_|refine aL_nil ?_|(apply aL_step;(·exact True.intro);(iterate 2 (·simp (disch:=first|omega|(simp only [go_sem];omega)) only [go_sem,seval,v6,v5,v2,hVl,hglog,hne0,hm2,hm33,tW,hWl,hW1,hW4,hw0,hw1,hq2,decide_true,decide_false,Bool.not_true,Bool.not_false]<;>with_reducible rfl));(·simp only [go_sem]<;>with_reducible rfl))|(refine aC_condF ?_ ?_;(·simp (disch:=first|omega|(simp only [go_sem];omega)) only [go_sem,seval,hw0]))|(refine aC_condP (by simp (disch:=first|omega|(simp only [go_sem];omega)) only [go_sem,seval,hw0]<;>with_reducible rfl) ?_ ?_<;>(intro h;first|(exfalso;omega)|skip))|fail)
          all_goals try (first|exact True.intro|exact not_false|omega|(simp (disch:=first|omega|(simp only [go_sem];omega)) only [go_sem,seval]<;>omega))
          all_goals try (refine ⟨_,hn,Sub.of_all (by simp [Fr.get]),rfl,?_⟩;show l.length-(k+1)<l.length-k;omega)
          all_goals try exact ⟨by kernel_rfl,by kernel_rfl,sk1,sk1⟩
        ·repeat' (first|refine aC_seq ?_|refine aC_reg rfl ?_|refine aC_skip ?_|refine aC_exit ?_|refine thenQ_normal ?_|refine blockQ_normal ?_|refine thenQ_exit ?_|refine blockQ_hit ?_|refine aL_nil ?_|(apply aL_step;(·exact True.intro);(iterate 2 (·simp (disch:=first|omega|(simp only [go_sem];omega)) only [go_sem,seval,v6,v5,hVl,hglog,hne0,hm2,hm33,hw0,decide_true,decide_false,Bool.not_true,Bool.not_false]<;>with_reducible rfl));(·simp only [go_sem]<;>with_reducible rfl))|(refine aL_skip ?_ (by simp only [go_sem]<;>with_reducible rfl) ?_;(·simp (disch:=first|omega|(simp only [go_sem];omega)) only [go_sem,seval]))|(refine aC_condF ?_ ?_;(·simp (disch:=first|omega|(simp only [go_sem];omega)) only [go_sem,seval]))|(refine aC_condP (by simp (disch:=first|omega|(simp only [go_sem];omega)) only [go_sem,seval]<;>with_reducible rfl) ?_ ?_<;>(intro h;first|(exfalso;omega)|skip))|fail)
         all_goals try (first|exact True.intro|exact not_false|omega|(simp (disch:=first|omega|(simp only [go_sem];omega)) only [go_sem,seval]<;>omega))
         all_goals try (refine ⟨_,hn,Sub.of_all (by simp [Fr.get]),rfl,?_⟩;show l.length-(k+1)<l.length-k;omega)
         all_goals try exact ⟨by kernel_rfl,by kernel_rfl,sk1,sk1⟩
      all_goals try (first|exact True.intro|exact hVo|exact ⟨Int.natCast_nonneg k,hlt⟩|(intro n e h;cases h;kernel_rfl))
    all_goals try (simp (disch:=first|omega|(simp only [go_sem];omega)) only [go_sem,seval])
    all_goals try exact hWo
    all_goals try exact ⟨Int.natCast_nonneg k,hlt⟩
   ·have hk2:k=l.length:=by omega
    subst hk2
    repeat' (first|refine aC_seq ?_|refine aC_reg rfl ?_|refine aC_exit ?_|refine aC_ret ?_|refine thenQ_normal ?_|refine thenQ_exit ?_|refine blockQ_hit ?_|refine aL_nil ?_|(apply aL_step;(·exact True.intro);(iterate 2 (·simp (disch:=first|omega|(simp only [go_sem];omega)) only [go_sem,seval,hgl]<;>with_reducible rfl));(·simp only [go_sem]<;>with_reducible rfl))|(refine aC_condP (by simp (disch:=first|omega|(simp only [go_sem];omega)) only [go_sem,seval]<;>with_reducible rfl) ?_ ?_<;>(intro h;first|(exfalso;omega)|skip))|(apply aL_pK cxG (hknown);(iterate 2 (·simp (disch:=first|omega|(simp only [go_sem];omega)) only [go_sem,seval]<;>with_reducible rfl));(·simp only [go_sem]<;>with_reducible rfl);(·simp))|fail)
    all_goals try (first|exact True.intro|exact not_false|omega|(simp (disch:=first|omega|(simp only [go_sem];omega)) only [go_sem,seval]<;>omega))
    all_goals try (simp (disch:=first|omega|(simp only [go_sem];omega)) only [go_sem,seval])
    all_goals try simp
  all_goals try (first|trivial|omega|(simp;done))
end
end Go.Am
