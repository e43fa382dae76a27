/- do: Create, Next, anything else; all. -/
import Derived.Test.YteemcehaekffeaaGreatO41
set_option linter.unusedVariables false
set_option linter.unusedSimpArgs false
namespace Go.Am
open Go Go.Proofs
set_option maxHeartbeats 8000000
set_option maxRecDepth 100000
section
attribute [local irreducible] aC aL thenQ blockQ scopeQ ALoop AWp
section
variable {n:Nat} {S:St} {L:List It} {last:Nat} {rs:Rs} {c b:Nat} {all:AVal}
theorem Far.app (S R:St):Far S (S++R):=⟨by rw [List.length_append];omega,fun i x _ hx _=>by rw [List.getElem?_append_left (List.getElem?_eq_some_iff.1 hx).1];exact hx⟩
theorem do_1_by (hS13:13≤S.length) {a:Act} (ha:a.Ok) (hk:a.kind=1) {R:Rm} (hR:R.Ok) (hlg:R.log.length≤1000000) {er:Int} {S1 S2:St} (f1:Far (S++[.cells [.ptr 3 0,.ptr 8 0,.ptr 10 0] 28,.cells (actC a) 49]) S1) (f2:Far (S1++[.cells (rmC R) 37]) S2)
  (h1:ACall cx 9 [.ptr 8 0,.int .i64 a.rd,.int .i64 a.root,.agg (bl a.v++[.int .u64 a.nodes]),.agg (bl a.t)] (S++[.cells [.ptr 3 0,.ptr 8 0,.ptr 10 0] 28,.cells (actC a) 49]) (.tup [.agg (rmC R),.int .i64 er]) S1) (h2:ACall cx 10 [.ptr 10 0,.int .i64 a.rd,.int .i64 a.root,.agg (bl a.v++[.int .u64 a.nodes]),.agg (bl a.t)] (S1++[.cells (rmC R) 37]) (.tup [.agg (rmC R),.int .i64 er]) S2) :
  ACall cx 11 [.agg [.ptr 3 0,.ptr 8 0,.ptr 10 0],.agg (actC a)] S (.bool true) (S2++[.cells (rmC R) 37]):=by
 have hal:=length_actC ha
 have hao:=act_one a
 have a1:=act_1 a
 have a2:=act_2 a
 have a3:=act_3 a
 have a4:=act_4 a
 have a5:=act_5 ha
 have a6:=act_6 ha
 have a7:=act_7 ha
 have a8:=act_8 ha
 rw [hk] at a1
 have g0:S1[S.length]? = some (.cells [.ptr 3 0,.ptr 8 0,.ptr 10 0] 28):=f1.2 _ _ hS13 (by rw [List.getElem?_append_right (Nat.le_refl _),Nat.sub_self];rfl) rfl
 have g1:S1[S.length+1]? = some (.cells (actC a) 49):=f1.2 _ _ (by omega) (by rw [List.getElem?_append_right (by omega),Nat.add_sub_cancel_left];rfl) rfl
 have hl1:S.length+2≤S1.length:=by have:=f1.1;rw [List.length_append] at this;exact this
 have g2:S2[S1.length]? = some (.cells (rmC R) 37):=f2.2 _ _ (by omega) (by rw [List.getElem?_append_right (Nat.le_refl _),Nat.sub_self];rfl) rfl
 have hl2:S1.length+1≤S2.length:=by have:=f2.1;rw [List.length_append] at this;exact this
 have hrm:=length_rmC hR
 have hro:=rm_one R
 have hrt:(rmC R).take 103=rmC R:=List.take_of_length_le (by omega)
 have hsm:=fun Q:St=>ref_same_rm (S:=S2++Q) (by rw [List.length_append];omega) hR hlg
 clear f1 f2
 generalize actC a=A at *
 generalize rmC R=rm at *
 refine oA lq11 ?_
 exact wk3 (pk12 @hal @a1 @a2 @a3 @a4 @a5 @a6 @a7 @a8 @g0 @g1 (pk4 @g2 @hrm @hrt @o_put0)) h1 h2 hsm
theorem do_1 (h:Sim n S L last rs c b all) (hn:n≤100) {a:Act} (ha:a.Ok) (hk:a.kind=1):∃ (S':St) (L':List It) (last':Nat) (rs':Rs) (c' b':Nat) (all':AVal),ACall cx 11 [.agg [.ptr 3 0,.ptr 8 0,.ptr 10 0],.agg (actC a)] S (.bool true) S'∧Far S S'∧Sim (n+1) S' L' last' rs' c' b' all'∧Stays a.rd rs rs'∧(a.kind≠7→Cts last rs rs' last'):=by
 have hS13:13≤S.length:=by have:=h.rf.orc.lt;omega
 have err:∀ er:Int,(∀ Q:St,ACall cx 9 [.ptr 8 0,.int .i64 a.rd,.int .i64 a.root,.agg (bl a.v++[.int .u64 a.nodes]),.agg (bl a.t)] (S++Q) (.tup [.agg (rmC zRm),.int .i64 er]) (S++Q))→(∀ Q:St,ACall cx 10 [.ptr 10 0,.int .i64 a.rd,.int .i64 a.root,.agg (bl a.v++[.int .u64 a.nodes]),.agg (bl a.t)] (S++Q) (.tup [.agg (rmC zRm),.int .i64 er]) (S++Q))→∃ (S':St) (L':List It) (last':Nat) (rs':Rs) (c' b':Nat) (all':AVal),ACall cx 11 [.agg [.ptr 3 0,.ptr 8 0,.ptr 10 0],.agg (actC a)] S (.bool true) S'∧Far S S'∧Sim (n+1) S' L' last' rs' c' b' all'∧Stays a.rd rs rs'∧(a.kind≠7→Cts last rs rs' last'):=fun er e1 e2=>by
  have e2':=e2 ([.cells [.ptr 3 0,.ptr 8 0,.ptr 10 0] 28,.cells (actC a) 49]++[.cells (rmC zRm) 37])
  rw [← List.append_assoc] at e2'
  have hc:=do_1_by hS13 ha hk zRm_ok (Nat.zero_le _) (.refl _) (.refl _) (e1 [.cells [.ptr 3 0,.ptr 8 0,.ptr 10 0] 28,.cells (actC a) 49]) e2'
  rw [List.append_assoc,List.append_assoc] at hc
  exact ⟨_,L,last,rs,c,b,all,hc,.app _ _,h.idle.more _,.refl _ _,fun _=>.refl _ _⟩
 by_cases hb:a.rd<0∨a.root<0
 ·exact err 2 (fun Q=>realm_create_arg (h.rz.rms.more Q) hb ha.v ha.t) (fun Q=>ref_create_arg (h.rf.more Q) hb ha.v ha.t)
 rcases hr:at? rs a.rd with _|p
 ·obtain ⟨S1,L',c',R,hl,hP,f1,hQ,hst,_,_,hct,hRo,hRl⟩:=done_create h hn hr (root:=a.root) (by omega) (by omega) (nodes:=a.nodes) ha.v ha.t
  obtain ⟨S2,b',all',h2,f2,hs⟩:=hQ ([.cells [.ptr 3 0,.ptr 8 0,.ptr 10 0] 28,.cells (actC a) 49]++[.cells (rmC R) 37])
  rw [← List.append_assoc] at h2 f2
  have f1':Far (S++[.cells [.ptr 3 0,.ptr 8 0,.ptr 10 0] 28,.cells (actC a) 49]) (S1++[.cells [.ptr 3 0,.ptr 8 0,.ptr 10 0] 28,.cells (actC a) 49]):=⟨by simp [hl],fun i x hi hx hr=>by
   by_cases hlt:i<S.length
   ·rw [List.getElem?_append_left hlt] at hx
    rw [List.getElem?_append_left (by omega)]
    exact f1.2 i x hi hx hr
   ·rw [List.getElem?_append_right (by omega)] at hx
    rw [List.getElem?_append_right (by omega),hl]
    exact hx⟩
  have hc:=do_1_by hS13 ha hk hRo (by omega) f1' f2 (hP [.cells [.ptr 3 0,.ptr 8 0,.ptr 10 0] 28,.cells (actC a) 49]) h2
  exact ⟨_,L',last+1,_,c',b',all',hc,(((Far.app S [.cells [.ptr 3 0,.ptr 8 0,.ptr 10 0] 28,.cells (actC a) 49]).trans f1').trans (Far.app _ _)).trans (f2.trans (Far.app _ _)),hs.more _,hst,fun _=>hct⟩
 ·obtain ⟨e,he,_,_⟩:=at_some hr
  exact err 7 (fun Q=>realm_create_state (h.rz.rms.more Q) (by omega) (by omega) hr he ha.v ha.t) (fun Q=>ref_create_state (h.rf.more Q) (by have:=h.rl;omega) (by omega) (by omega) hr ha.v ha.t)
theorem do_7_by (hS13:13≤S.length) {a:Act} (ha:a.Ok) (hk:a.kind=7) {m er:Int} {S1 S2:St} (f1:Far (S++[.cells [.ptr 3 0,.ptr 8 0,.ptr 10 0] 28,.cells (actC a) 49]) S1)
  (h1:ACall cx 13 [.ptr 8 0,.int .i64 a.rd] (S++[.cells [.ptr 3 0,.ptr 8 0,.ptr 10 0] 28,.cells (actC a) 49]) (.tup [.int .u64 m,.int .i64 er]) S1) (h2:ACall cx 14 [.ptr 10 0,.int .i64 a.rd] S1 (.tup [.int .u64 m,.int .i64 er]) S2) :
  ACall cx 11 [.agg [.ptr 3 0,.ptr 8 0,.ptr 10 0],.agg (actC a)] S (.bool true) S2:=by
 have hal:=length_actC ha
 have hao:=act_one a
 have a1:=act_1 a
 have a2:=act_2 a
 have a3:=act_3 a
 have a4:=act_4 a
 have a5:=act_5 ha
 have a6:=act_6 ha
 have a7:=act_7 ha
 have a8:=act_8 ha
 rw [hk] at a1
 have g0:S1[S.length]? = some (.cells [.ptr 3 0,.ptr 8 0,.ptr 10 0] 28):=f1.2 _ _ hS13 (by rw [List.getElem?_append_right (Nat.le_refl _),Nat.sub_self];rfl) rfl
 have g1:S1[S.length+1]? = some (.cells (actC a) 49):=f1.2 _ _ (by omega) (by rw [List.getElem?_append_right (by omega),Nat.add_sub_cancel_left];rfl) rfl
 clear f1
 generalize actC a=A at *
 refine oA lq11 ?_
 exact wk2 (pk11 @hal @a1 @a2 @a3 @a4 @a5 @a6 @a7 @a8 @g0 @g1) h1 h2
theorem do_7 (h:Sim n S L last rs c b all) (hn:n≤100) {a:Act} (ha:a.Ok) (hk:a.kind=7):∃ (S':St) (L':List It) (last':Nat) (rs':Rs) (c' b':Nat) (all':AVal),ACall cx 11 [.agg [.ptr 3 0,.ptr 8 0,.ptr 10 0],.agg (actC a)] S (.bool true) S'∧Far S S'∧Sim (n+1) S' L' last' rs' c' b' all'∧Stays a.rd rs rs'∧(a.kind≠7→Cts last rs rs' last'):=by
 have hS13:13≤S.length:=by have:=h.rf.orc.lt;omega
 rcases hr:at? rs a.rd with _|p
 ·obtain ⟨S1,S2,L',last',rs',c',b',all',h1,f1,h2,f2,hs,hst,_⟩:=done_next_none (h.more [.cells [.ptr 3 0,.ptr 8 0,.ptr 10 0] 28,.cells (actC a) 49]) hn hr
  exact ⟨S2,L',last',rs',c',b',all',do_7_by hS13 ha hk f1 h1 h2,(Far.app S [.cells [.ptr 3 0,.ptr 8 0,.ptr 10 0] 28,.cells (actC a) 49]).trans (f1.trans f2),hs,hst,fun k=>absurd hk k⟩
 ·obtain ⟨e,he,_,_⟩:=at_some hr
  obtain ⟨S1,S2,L',last',rs',c',b',all',h1,f1,h2,f2,hs,hst,_⟩:=done_next (h.more [.cells [.ptr 3 0,.ptr 8 0,.ptr 10 0] 28,.cells (actC a) 49]) hn hr he
  exact ⟨S2,L',last',rs',c',b',all',do_7_by hS13 ha hk f1 h1 h2,(Far.app S [.cells [.ptr 3 0,.ptr 8 0,.ptr 10 0] 28,.cells (actC a) 49]).trans (f1.trans f2),hs,hst,fun k=>absurd hk k⟩
theorem do_other (h:Sim n S L last rs c b all) {a:Act} (ha:a.Ok) (hk:a.kind<1∨9<a.kind):∃ (S':St) (L':List It) (last':Nat) (rs':Rs) (c' b':Nat) (all':AVal),ACall cx 11 [.agg [.ptr 3 0,.ptr 8 0,.ptr 10 0],.agg (actC a)] S (.bool true) S'∧Far S S'∧Sim (n+1) S' L' last' rs' c' b' all'∧Stays a.rd rs rs'∧(a.kind≠7→Cts last rs rs' last'):=by
 have hal:=length_actC ha
 have hao:=act_one a
 have a1:=act_1 a
 have k1:¬ a.kind=1:=by omega
 have k2:¬ a.kind=2:=by omega
 have k3:¬ a.kind=3:=by omega
 have k4:¬ a.kind=4:=by omega
 have k5:¬ a.kind=5:=by omega
 have k6:¬ a.kind=6:=by omega
 have k7:¬ a.kind=7:=by omega
 have k8:¬ a.kind=8:=by omega
 have k9:¬ a.kind=9:=by omega
 refine ⟨S++[.cells [.ptr 3 0,.ptr 8 0,.ptr 10 0] 28,.cells (actC a) 49],L,last,rs,c,b,all,?_,.app _ _,h.idle.more _,.refl _ _,fun _=>.refl _ _⟩
 generalize a.kind=k at *
 generalize actC a=A at *
 refine oA lq11 ?_
 exact wk (pk11 @hal @a1 @k1 @k2 @k3 @k4 @k5 @k6 @k7 @k8 @k9)
theorem do_all (h:Sim n S L last rs c b all) (hn:n≤100) {a:Act} (ha:a.Ok):∃ (S':St) (L':List It) (last':Nat) (rs':Rs) (c' b':Nat) (all':AVal),ACall cx 11 [.agg [.ptr 3 0,.ptr 8 0,.ptr 10 0],.agg (actC a)] S (.bool true) S'∧Far S S'∧Sim (n+1) S' L' last' rs' c' b' all'∧Stays a.rd rs rs'∧(a.kind≠7→Cts last rs rs' last'):=by
 by_cases hk:a.kind<1∨9<a.kind
 ·exact do_other h ha hk
 ·rcases (show a.kind=1∨a.kind=2∨a.kind=3∨a.kind=4∨a.kind=5∨a.kind=6∨a.kind=7∨a.kind=8∨a.kind=9 by omega) with k|k|k|k|k|k|k|k|k
  ·exact do_1 h hn ha k
  ·exact do_2 h hn ha k
  ·exact do_3 h hn ha k
  ·exact do_4 h hn ha k
  ·exact do_5 h hn ha k
  ·exact do_6 h hn ha k
  ·exact do_7 h hn ha k
  ·exact do_8 h hn ha k
  ·exact do_9 h hn ha k
end
end
end Go.Am
