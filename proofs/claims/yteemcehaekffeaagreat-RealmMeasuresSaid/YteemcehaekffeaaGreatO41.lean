/- do: by both, and they do not differ. -/
import Derived.Test.YteemcehaekffeaaGreatO36
set_option linter.unusedVariables false
set_option linter.unusedSimpArgs false
namespace Go.Am
open Go Go.Proofs
set_option maxHeartbeats 8000000
set_option maxRecDepth 100000
section
attribute [local irreducible] aC aL thenQ blockQ scopeQ ALoop AWp
structure Act where
 kind:Int
 rd:Int
 root:Int
 page:Int
 v:List UInt8
 nodes:Nat
 t:List UInt8
 g:List UInt8
 rp:Rp
structure Act.Ok (a:Act):Prop where
 v:a.v.length=32
 t:a.t.length=32
 g:a.g.length=128
 p:a.rp.Ok
def actC (a:Act):List AVal:=.int .i64 a.kind :: .int .i64 a.rd :: .int .i64 a.root :: .int .i64 a.page::(bl a.v++(.int .u64 a.nodes::(bl a.t++(bl a.g++rpC a.rp))))
theorem length_actC {a:Act} (h:a.Ok):(actC a).length=207:=by simp [actC,h.v,h.t,h.g,length_rpC h.p]
theorem act_one (a:Act):∀ x∈actC a,x.one=true:=fun x hx=>by
 unfold actC at hx
 simp only [List.mem_cons,List.mem_append] at hx
 rcases hx with rfl|rfl|rfl|rfl|hx|rfl|hx|hx|hx
 ·rfl
 ·rfl
 ·rfl
 ·rfl
 ·exact bl_one _ _ hx
 ·rfl
 ·exact bl_one _ _ hx
 ·exact bl_one _ _ hx
 ·exact rp_one _ _ hx
theorem act_1 (a:Act):(actC a).take 1=[.int .i64 a.kind]:=rfl
theorem act_2 (a:Act):((actC a).drop 1).take 1=[.int .i64 a.rd]:=rfl
theorem act_3 (a:Act):((actC a).drop 2).take 1=[.int .i64 a.root]:=rfl
theorem act_4 (a:Act):((actC a).drop 3).take 1=[.int .i64 a.page]:=rfl
theorem act_5 {a:Act} (h:a.Ok):((actC a).drop 4).take 33=bl a.v++[.int .u64 a.nodes]:=by
 unfold actC
 simp only [List.drop_succ_cons,List.drop_zero]
 rw [List.take_append,List.take_of_length_le (by rw [length_bl,h.v];decide),length_bl,h.v]
 rfl
theorem act_6 {a:Act} (h:a.Ok):((actC a).drop 37).take 32=bl a.t:=by
 unfold actC
 simp only [List.drop_succ_cons]
 rw [show 33=1+32 from rfl,o_drop h.v,List.drop_succ_cons,List.drop_zero,o_take h.t]
theorem act_7 {a:Act} (h:a.Ok):((actC a).drop 69).take 128=bl a.g:=by
 unfold actC
 simp only [List.drop_succ_cons]
 rw [show 65=33+32 from rfl,o_drop h.v,List.drop_succ_cons,show 32=0+32 from rfl,o_drop h.t,List.drop_zero,List.take_append_of_le_length (by rw [length_bl,h.g];decide),List.take_of_length_le (by rw [length_bl,h.g];decide)]
theorem act_8 {a:Act} (h:a.Ok):((actC a).drop 197).take 10=rpC a.rp:=by
 unfold actC
 simp only [List.drop_succ_cons]
 rw [show 193=161+32 from rfl,o_drop h.v,List.drop_succ_cons,show 160=128+32 from rfl,o_drop h.t,List.drop_append,List.drop_eq_nil_of_le (by rw [length_bl,h.g];decide),length_bl,h.g,List.nil_append,Nat.sub_self,List.drop_zero,List.take_of_length_le (by rw [length_rpC h.p];decide)]
section
variable {n:Nat} {S:St} {L:List It} {last:Nat} {rs:Rs} {c b:Nat} {all:AVal}
theorem do_2 (h:Sim n S L last rs c b all) (hn:n≤100) {a:Act} (ha:a.Ok) (hk:a.kind=2):∃ (S':St) (L':List It) (last':Nat) (rs':Rs) (c' b':Nat) (all':AVal),ACall cx 11 [.agg [.ptr 3 0,.ptr 8 0,.ptr 10 0],.agg (actC a)] S (.bool true) S'∧Far S S'∧Sim (n+1) S' L' last' rs' c' b' all'∧Stays a.rd rs rs'∧(a.kind≠7→Cts last rs rs' last'):=by
 have hal:=length_actC ha
 have hao:=act_one a
 have a1:=act_1 a
 have a2:=act_2 a
 have a3:=act_3 a
 have a4:=act_4 a
 have a5:=act_5 ha
 have a6:=act_6 ha
 have a7:=act_7 ha
 have a8:=act_8 ha
 rw [hk] at a1
 obtain ⟨er,S1,S2,L',last',rs',c',b',all',h1,f1,h2,f2,hs,hst,hct⟩:=done_data (h.more [.cells [.ptr 3 0,.ptr 8 0,.ptr 10 0] 28,.cells (actC a) 49]) hn a.rd a.page ha.g
 have hS13:13≤S.length:=by have:=h.rf.orc.lt;omega
 have g0:S1[S.length]? = some (.cells [.ptr 3 0,.ptr 8 0,.ptr 10 0] 28):=f1.2 _ _ hS13 (by rw [List.getElem?_append_right (Nat.le_refl _),Nat.sub_self];rfl) rfl
 have g1:S1[S.length+1]? = some (.cells (actC a) 49):=f1.2 _ _ (by omega) (by rw [List.getElem?_append_right (by omega),Nat.add_sub_cancel_left];rfl) rfl
 have hkk:∀ e∈([(some 56,S.length),(some 65,S.length),(some 58,S.length+1),(some 60,S.length+1),(some 62,S.length+1),(some 67,S.length+1),(some 69,S.length+1),(some 71,S.length+1)]:List (Option Nat × Nat)),(e.1,some 63)∈([(some 65,some 63),(some 67,some 63),(some 69,some 63),(some 71,some 63)]:UL)→S1[e.2]? = (S++[.cells [.ptr 3 0,.ptr 8 0,.ptr 10 0] 28,.cells (actC a) 49])[e.2]?:=fun e he _=>by
  have hB:e.2=S.length∨e.2=S.length+1:=by
   simp only [List.mem_cons,List.not_mem_nil,or_false] at he
   (repeat' (obtain he|he:=(he:_∨_)))<;>subst he<;>simp
  rcases hB with hB|hB
  ·rw [hB,g0,List.getElem?_append_right (Nat.le_refl _),Nat.sub_self];rfl
  ·rw [hB,g1,List.getElem?_append_right (by omega),Nat.add_sub_cancel_left];rfl
 refine ⟨S2,L',last',rs',c',b',all',?_,⟨Nat.le_trans (by rw [List.length_append];omega) (f1.trans f2).1,fun i x hi hx hr=>(f1.trans f2).2 i x hi (by rw [List.getElem?_append_left (List.getElem?_eq_some_iff.1 hx).1];exact hx) hr⟩,hs,hst,fun _=>hct⟩
 clear hct hst hs f1 f2 h
 generalize actC a=A at *
 refine acall_fnK cxOk Tryz.func11 (fun _=>false) (fe11.q) (by kernel_rfl) (by dsimp only [Tryz.f11,go_sem,seval,liteO,Option.map,List.map];exact .mk _) ?_
 dsimp only [Tryz.f11,frame0,List.zipIdx,List.map,Nat.reduceAdd]
 repeat' (first|refine aC_seq ?_|refine aC_reg rfl ?_|refine aC_block ?_|refine thenQ_normal ?_|refine aL_nil ?_|(apply aL_step;(·exact True.intro);(iterate 2 (·simp (disch:=omega) only [go_sem,seval,hal,a1,decide_true,decide_false]<;>with_reducible rfl));(·simp only [go_sem]<;>with_reducible rfl))|(refine aC_condT ?_ ?_;(·simp (disch:=omega) only [go_sem,seval]))|(refine aC_condF ?_ ?_;(·simp (disch:=omega) only [go_sem,seval]))|fail)
 refine aC_regB (U:=[(some 65,some 63),(some 67,some 63),(some 69,some 63),(some 71,some 63)]) rfl [(some 56,S.length),(some 65,S.length),(some 58,S.length+1),(some 60,S.length+1),(some 62,S.length+1),(some 67,S.length+1),(some 69,S.length+1),(some 71,S.length+1)] ?_
 repeat' (first|refine aLB_nil ?_|(apply aLB_step;(·exact True.intro);(·exact (by intro h;cases h));(·rfl);(·simp (disch:=omega) only [go_sem,seval,eq_self]);(·simp (disch:=omega) only [go_sem,seval,hal,a2,a4,a7,g0,g1,eq_self,decide_true]<;>with_reducible rfl);(·simp only [go_sem]<;>with_reducible rfl);(·(intro b hb;first|(cases hb;done)|(simp (disch:=omega) only [loadBox,go_sem,seval] at hb;(try injection hb with hb);subst hb;simp))))|(apply aLB_acall h1;(case hg=>(simp (disch:=omega) only [go_sem,seval,eq_self]));(case hx=>(simp (disch:=omega) only [go_sem,seval]<;>with_reducible rfl));(case ha=>(simp (disch:=omega) only [go_sem,seval]<;>with_reducible rfl));(case he=>(with_reducible rfl));(case hp=>(rfl));(case hf=>(simp only [go_sem]<;>with_reducible rfl));(case hk=>(exact hkk)))|(apply aLB_acall (h2);(case hg=>(simp (disch:=omega) only [go_sem,seval,eq_self]));(case hx=>(simp (disch:=omega) only [go_sem,seval]<;>with_reducible rfl));(case ha=>(simp (disch:=omega) only [go_sem,seval]<;>with_reducible rfl));(case he=>(with_reducible rfl));(case hp=>(rfl));(case hf=>(simp only [go_sem]<;>with_reducible rfl));(case hk=>(simp)))|fail)
 repeat' (first|refine aC_ret ?_|refine thenQ_normal ?_|refine thenQ_ret ?_|refine blockQ_ret ?_|fail)
 all_goals try (first|exact True.intro|exact not_false|omega|(simp (disch:=omega) only [go_sem,seval]<;>omega))
theorem do_3 (h:Sim n S L last rs c b all) (hn:n≤100) {a:Act} (ha:a.Ok) (hk:a.kind=3):∃ (S':St) (L':List It) (last':Nat) (rs':Rs) (c' b':Nat) (all':AVal),ACall cx 11 [.agg [.ptr 3 0,.ptr 8 0,.ptr 10 0],.agg (actC a)] S (.bool true) S'∧Far S S'∧Sim (n+1) S' L' last' rs' c' b' all'∧Stays a.rd rs rs'∧(a.kind≠7→Cts last rs rs' last'):=by
 have hal:=length_actC ha
 have hao:=act_one a
 have a1:=act_1 a
 have a2:=act_2 a
 have a3:=act_3 a
 have a4:=act_4 a
 have a5:=act_5 ha
 have a6:=act_6 ha
 have a7:=act_7 ha
 have a8:=act_8 ha
 rw [hk] at a1
 obtain ⟨er,S1,S2,L',last',rs',c',b',all',h1,f1,h2,f2,hs,hst,hct⟩:=done_addrec (h.more [.cells [.ptr 3 0,.ptr 8 0,.ptr 10 0] 28,.cells (actC a) 49]) hn a.rd ha.p
 have hS13:13≤S.length:=by have:=h.rf.orc.lt;omega
 have g0:S1[S.length]? = some (.cells [.ptr 3 0,.ptr 8 0,.ptr 10 0] 28):=f1.2 _ _ hS13 (by rw [List.getElem?_append_right (Nat.le_refl _),Nat.sub_self];rfl) rfl
 have g1:S1[S.length+1]? = some (.cells (actC a) 49):=f1.2 _ _ (by omega) (by rw [List.getElem?_append_right (by omega),Nat.add_sub_cancel_left];rfl) rfl
 have hkk:∀ e∈([(some 77,S.length),(some 84,S.length),(some 79,S.length+1),(some 81,S.length+1),(some 86,S.length+1),(some 88,S.length+1)]:List (Option Nat × Nat)),(e.1,some 82)∈([(some 84,some 82),(some 86,some 82),(some 88,some 82)]:UL)→S1[e.2]? = (S++[.cells [.ptr 3 0,.ptr 8 0,.ptr 10 0] 28,.cells (actC a) 49])[e.2]?:=fun e he _=>by
  have hB:e.2=S.length∨e.2=S.length+1:=by
   simp only [List.mem_cons,List.not_mem_nil,or_false] at he
   (repeat' (obtain he|he:=(he:_∨_)))<;>subst he<;>simp
  rcases hB with hB|hB
  ·rw [hB,g0,List.getElem?_append_right (Nat.le_refl _),Nat.sub_self];rfl
  ·rw [hB,g1,List.getElem?_append_right (by omega),Nat.add_sub_cancel_left];rfl
 refine ⟨S2,L',last',rs',c',b',all',?_,⟨Nat.le_trans (by rw [List.length_append];omega) (f1.trans f2).1,fun i x hi hx hr=>(f1.trans f2).2 i x hi (by rw [List.getElem?_append_left (List.getElem?_eq_some_iff.1 hx).1];exact hx) hr⟩,hs,hst,fun _=>hct⟩
 clear hct hst hs f1 f2 h
 generalize actC a=A at *
 refine acall_fnK cxOk Tryz.func11 (fun _=>false) (fe11.q) (by kernel_rfl) (by dsimp only [Tryz.f11,go_sem,seval,liteO,Option.map,List.map];exact .mk _) ?_
 dsimp only [Tryz.f11,frame0,List.zipIdx,List.map,Nat.reduceAdd]
 repeat' (first|refine aC_seq ?_|refine aC_reg rfl ?_|refine aC_block ?_|refine thenQ_normal ?_|refine aL_nil ?_|(apply aL_step;(·exact True.intro);(iterate 2 (·simp (disch:=omega) only [go_sem,seval,hal,a1,decide_true,decide_false]<;>with_reducible rfl));(·simp only [go_sem]<;>with_reducible rfl))|(refine aC_condT ?_ ?_;(·simp (disch:=omega) only [go_sem,seval]))|(refine aC_condF ?_ ?_;(·simp (disch:=omega) only [go_sem,seval]))|fail)
 refine aC_regB (U:=[(some 84,some 82),(some 86,some 82),(some 88,some 82)]) rfl [(some 77,S.length),(some 84,S.length),(some 79,S.length+1),(some 81,S.length+1),(some 86,S.length+1),(some 88,S.length+1)] ?_
 repeat' (first|refine aLB_nil ?_|(apply aLB_step;(·exact True.intro);(·exact (by intro h;cases h));(·rfl);(·simp (disch:=omega) only [go_sem,seval,eq_self]);(·simp (disch:=omega) only [go_sem,seval,hal,a2,a8,g0,g1,eq_self,decide_true]<;>with_reducible rfl);(·simp only [go_sem]<;>with_reducible rfl);(·(intro b hb;first|(cases hb;done)|(simp (disch:=omega) only [loadBox,go_sem,seval] at hb;(try injection hb with hb);subst hb;simp))))|(apply aLB_acall h1;(case hg=>(simp (disch:=omega) only [go_sem,seval,eq_self]));(case hx=>(simp (disch:=omega) only [go_sem,seval]<;>with_reducible rfl));(case ha=>(simp (disch:=omega) only [go_sem,seval]<;>with_reducible rfl));(case he=>(with_reducible rfl));(case hp=>(rfl));(case hf=>(simp only [go_sem]<;>with_reducible rfl));(case hk=>(exact hkk)))|(apply aLB_acall (h2);(case hg=>(simp (disch:=omega) only [go_sem,seval,eq_self]));(case hx=>(simp (disch:=omega) only [go_sem,seval]<;>with_reducible rfl));(case ha=>(simp (disch:=omega) only [go_sem,seval]<;>with_reducible rfl));(case he=>(with_reducible rfl));(case hp=>(rfl));(case hf=>(simp only [go_sem]<;>with_reducible rfl));(case hk=>(simp)))|fail)
 repeat' (first|refine aC_ret ?_|refine thenQ_normal ?_|refine thenQ_ret ?_|refine blockQ_ret ?_|fail)
 all_goals try (first|exact True.intro|exact not_false|omega|(simp (disch:=omega) only [go_sem,seval]<;>omega))
theorem do_4 (h:Sim n S L last rs c b all) (hn:n≤100) {a:Act} (ha:a.Ok) (hk:a.kind=4):∃ (S':St) (L':List It) (last':Nat) (rs':Rs) (c' b':Nat) (all':AVal),ACall cx 11 [.agg [.ptr 3 0,.ptr 8 0,.ptr 10 0],.agg (actC a)] S (.bool true) S'∧Far S S'∧Sim (n+1) S' L' last' rs' c' b' all'∧Stays a.rd rs rs'∧(a.kind≠7→Cts last rs rs' last'):=by
 have hal:=length_actC ha
 have hao:=act_one a
 have a1:=act_1 a
 have a2:=act_2 a
 have a3:=act_3 a
 have a4:=act_4 a
 have a5:=act_5 ha
 have a6:=act_6 ha
 have a7:=act_7 ha
 have a8:=act_8 ha
 rw [hk] at a1
 obtain ⟨er,S1,S2,L',last',rs',c',b',all',h1,f1,h2,f2,hs,hst,hct⟩:=done_droprec (h.more [.cells [.ptr 3 0,.ptr 8 0,.ptr 10 0] 28,.cells (actC a) 49]) hn a.rd
 have hS13:13≤S.length:=by have:=h.rf.orc.lt;omega
 have g0:S1[S.length]? = some (.cells [.ptr 3 0,.ptr 8 0,.ptr 10 0] 28):=f1.2 _ _ hS13 (by rw [List.getElem?_append_right (Nat.le_refl _),Nat.sub_self];rfl) rfl
 have g1:S1[S.length+1]? = some (.cells (actC a) 49):=f1.2 _ _ (by omega) (by rw [List.getElem?_append_right (by omega),Nat.add_sub_cancel_left];rfl) rfl
 have hkk:∀ e∈([(some 94,S.length),(some 99,S.length),(some 96,S.length+1),(some 101,S.length+1)]:List (Option Nat × Nat)),(e.1,some 97)∈([(some 99,some 97),(some 101,some 97)]:UL)→S1[e.2]? = (S++[.cells [.ptr 3 0,.ptr 8 0,.ptr 10 0] 28,.cells (actC a) 49])[e.2]?:=fun e he _=>by
  have hB:e.2=S.length∨e.2=S.length+1:=by
   simp only [List.mem_cons,List.not_mem_nil,or_false] at he
   (repeat' (obtain he|he:=(he:_∨_)))<;>subst he<;>simp
  rcases hB with hB|hB
  ·rw [hB,g0,List.getElem?_append_right (Nat.le_refl _),Nat.sub_self];rfl
  ·rw [hB,g1,List.getElem?_append_right (by omega),Nat.add_sub_cancel_left];rfl
 refine ⟨S2,L',last',rs',c',b',all',?_,⟨Nat.le_trans (by rw [List.length_append];omega) (f1.trans f2).1,fun i x hi hx hr=>(f1.trans f2).2 i x hi (by rw [List.getElem?_append_left (List.getElem?_eq_some_iff.1 hx).1];exact hx) hr⟩,hs,hst,fun _=>hct⟩
 clear hct hst hs f1 f2 h
 generalize actC a=A at *
 refine acall_fnK cxOk Tryz.func11 (fun _=>false) (fe11.q) (by kernel_rfl) (by dsimp only [Tryz.f11,go_sem,seval,liteO,Option.map,List.map];exact .mk _) ?_
 dsimp only [Tryz.f11,frame0,List.zipIdx,List.map,Nat.reduceAdd]
 repeat' (first|refine aC_seq ?_|refine aC_reg rfl ?_|refine aC_block ?_|refine thenQ_normal ?_|refine aL_nil ?_|(apply aL_step;(·exact True.intro);(iterate 2 (·simp (disch:=omega) only [go_sem,seval,hal,a1,decide_true,decide_false]<;>with_reducible rfl));(·simp only [go_sem]<;>with_reducible rfl))|(refine aC_condT ?_ ?_;(·simp (disch:=omega) only [go_sem,seval]))|(refine aC_condF ?_ ?_;(·simp (disch:=omega) only [go_sem,seval]))|fail)
 refine aC_regB (U:=[(some 99,some 97),(some 101,some 97)]) rfl [(some 94,S.length),(some 99,S.length),(some 96,S.length+1),(some 101,S.length+1)] ?_
 repeat' (first|refine aLB_nil ?_|(apply aLB_step;(·exact True.intro);(·exact (by intro h;cases h));(·rfl);(·simp (disch:=omega) only [go_sem,seval,eq_self]);(·simp (disch:=omega) only [go_sem,seval,hal,a2,g0,g1,eq_self,decide_true]<;>with_reducible rfl);(·simp only [go_sem]<;>with_reducible rfl);(·(intro b hb;first|(cases hb;done)|(simp (disch:=omega) only [loadBox,go_sem,seval] at hb;(try injection hb with hb);subst hb;simp))))|(apply aLB_acall h1;(case hg=>(simp (disch:=omega) only [go_sem,seval,eq_self]));(case hx=>(simp (disch:=omega) only [go_sem,seval]<;>with_reducible rfl));(case ha=>(simp (disch:=omega) only [go_sem,seval]<;>with_reducible rfl));(case he=>(with_reducible rfl));(case hp=>(rfl));(case hf=>(simp only [go_sem]<;>with_reducible rfl));(case hk=>(exact hkk)))|(apply aLB_acall (h2);(case hg=>(simp (disch:=omega) only [go_sem,seval,eq_self]));(case hx=>(simp (disch:=omega) only [go_sem,seval]<;>with_reducible rfl));(case ha=>(simp (disch:=omega) only [go_sem,seval]<;>with_reducible rfl));(case he=>(with_reducible rfl));(case hp=>(rfl));(case hf=>(simp only [go_sem]<;>with_reducible rfl));(case hk=>(simp)))|fail)
 repeat' (first|refine aC_ret ?_|refine thenQ_normal ?_|refine thenQ_ret ?_|refine blockQ_ret ?_|fail)
 all_goals try (first|exact True.intro|exact not_false|omega|(simp (disch:=omega) only [go_sem,seval]<;>omega))
theorem do_5 (h:Sim n S L last rs c b all) (hn:n≤100) {a:Act} (ha:a.Ok) (hk:a.kind=5):∃ (S':St) (L':List It) (last':Nat) (rs':Rs) (c' b':Nat) (all':AVal),ACall cx 11 [.agg [.ptr 3 0,.ptr 8 0,.ptr 10 0],.agg (actC a)] S (.bool true) S'∧Far S S'∧Sim (n+1) S' L' last' rs' c' b' all'∧Stays a.rd rs rs'∧(a.kind≠7→Cts last rs rs' last'):=by
 have hal:=length_actC ha
 have hao:=act_one a
 have a1:=act_1 a
 have a2:=act_2 a
 have a3:=act_3 a
 have a4:=act_4 a
 have a5:=act_5 ha
 have a6:=act_6 ha
 have a7:=act_7 ha
 have a8:=act_8 ha
 rw [hk] at a1
 obtain ⟨er,S1,S2,L',last',rs',c',b',all',h1,f1,h2,f2,hs,hst,hct⟩:=done_activate (h.more [.cells [.ptr 3 0,.ptr 8 0,.ptr 10 0] 28,.cells (actC a) 49]) hn a.rd
 have hS13:13≤S.length:=by have:=h.rf.orc.lt;omega
 have g0:S1[S.length]? = some (.cells [.ptr 3 0,.ptr 8 0,.ptr 10 0] 28):=f1.2 _ _ hS13 (by rw [List.getElem?_append_right (Nat.le_refl _),Nat.sub_self];rfl) rfl
 have g1:S1[S.length+1]? = some (.cells (actC a) 49):=f1.2 _ _ (by omega) (by rw [List.getElem?_append_right (by omega),Nat.add_sub_cancel_left];rfl) rfl
 have hkk:∀ e∈([(some 107,S.length),(some 112,S.length),(some 109,S.length+1),(some 114,S.length+1)]:List (Option Nat × Nat)),(e.1,some 110)∈([(some 112,some 110),(some 114,some 110)]:UL)→S1[e.2]? = (S++[.cells [.ptr 3 0,.ptr 8 0,.ptr 10 0] 28,.cells (actC a) 49])[e.2]?:=fun e he _=>by
  have hB:e.2=S.length∨e.2=S.length+1:=by
   simp only [List.mem_cons,List.not_mem_nil,or_false] at he
   (repeat' (obtain he|he:=(he:_∨_)))<;>subst he<;>simp
  rcases hB with hB|hB
  ·rw [hB,g0,List.getElem?_append_right (Nat.le_refl _),Nat.sub_self];rfl
  ·rw [hB,g1,List.getElem?_append_right (by omega),Nat.add_sub_cancel_left];rfl
 refine ⟨S2,L',last',rs',c',b',all',?_,⟨Nat.le_trans (by rw [List.length_append];omega) (f1.trans f2).1,fun i x hi hx hr=>(f1.trans f2).2 i x hi (by rw [List.getElem?_append_left (List.getElem?_eq_some_iff.1 hx).1];exact hx) hr⟩,hs,hst,fun _=>hct⟩
 clear hct hst hs f1 f2 h
 generalize actC a=A at *
 refine acall_fnK cxOk Tryz.func11 (fun _=>false) (fe11.q) (by kernel_rfl) (by dsimp only [Tryz.f11,go_sem,seval,liteO,Option.map,List.map];exact .mk _) ?_
 dsimp only [Tryz.f11,frame0,List.zipIdx,List.map,Nat.reduceAdd]
 repeat' (first|refine aC_seq ?_|refine aC_reg rfl ?_|refine aC_block ?_|refine thenQ_normal ?_|refine aL_nil ?_|(apply aL_step;(·exact True.intro);(iterate 2 (·simp (disch:=omega) only [go_sem,seval,hal,a1,decide_true,decide_false]<;>with_reducible rfl));(·simp only [go_sem]<;>with_reducible rfl))|(refine aC_condT ?_ ?_;(·simp (disch:=omega) only [go_sem,seval]))|(refine aC_condF ?_ ?_;(·simp (disch:=omega) only [go_sem,seval]))|fail)
 refine aC_regB (U:=[(some 112,some 110),(some 114,some 110)]) rfl [(some 107,S.length),(some 112,S.length),(some 109,S.length+1),(some 114,S.length+1)] ?_
 repeat' (first|refine aLB_nil ?_|(apply aLB_step;(·exact True.intro);(·exact (by intro h;cases h));(·rfl);(·simp (disch:=omega) only [go_sem,seval,eq_self]);(·simp (disch:=omega) only [go_sem,seval,hal,a2,g0,g1,eq_self,decide_true]<;>with_reducible rfl);(·simp only [go_sem]<;>with_reducible rfl);(·(intro b hb;first|(cases hb;done)|(simp (disch:=omega) only [loadBox,go_sem,seval] at hb;(try injection hb with hb);subst hb;simp))))|(apply aLB_acall h1;(case hg=>(simp (disch:=omega) only [go_sem,seval,eq_self]));(case hx=>(simp (disch:=omega) only [go_sem,seval]<;>with_reducible rfl));(case ha=>(simp (disch:=omega) only [go_sem,seval]<;>with_reducible rfl));(case he=>(with_reducible rfl));(case hp=>(rfl));(case hf=>(simp only [go_sem]<;>with_reducible rfl));(case hk=>(exact hkk)))|(apply aLB_acall (h2);(case hg=>(simp (disch:=omega) only [go_sem,seval,eq_self]));(case hx=>(simp (disch:=omega) only [go_sem,seval]<;>with_reducible rfl));(case ha=>(simp (disch:=omega) only [go_sem,seval]<;>with_reducible rfl));(case he=>(with_reducible rfl));(case hp=>(rfl));(case hf=>(simp only [go_sem]<;>with_reducible rfl));(case hk=>(simp)))|fail)
 repeat' (first|refine aC_ret ?_|refine thenQ_normal ?_|refine thenQ_ret ?_|refine blockQ_ret ?_|fail)
 all_goals try (first|exact True.intro|exact not_false|omega|(simp (disch:=omega) only [go_sem,seval]<;>omega))
theorem do_6 (h:Sim n S L last rs c b all) (hn:n≤100) {a:Act} (ha:a.Ok) (hk:a.kind=6):∃ (S':St) (L':List It) (last':Nat) (rs':Rs) (c' b':Nat) (all':AVal),ACall cx 11 [.agg [.ptr 3 0,.ptr 8 0,.ptr 10 0],.agg (actC a)] S (.bool true) S'∧Far S S'∧Sim (n+1) S' L' last' rs' c' b' all'∧Stays a.rd rs rs'∧(a.kind≠7→Cts last rs rs' last'):=by
 have hal:=length_actC ha
 have hao:=act_one a
 have a1:=act_1 a
 have a2:=act_2 a
 have a3:=act_3 a
 have a4:=act_4 a
 have a5:=act_5 ha
 have a6:=act_6 ha
 have a7:=act_7 ha
 have a8:=act_8 ha
 rw [hk] at a1
 obtain ⟨er,S1,S2,L',last',rs',c',b',all',h1,f1,h2,f2,hs,hst,hct⟩:=done_kill (h.more [.cells [.ptr 3 0,.ptr 8 0,.ptr 10 0] 28,.cells (actC a) 49]) hn a.rd
 have hS13:13≤S.length:=by have:=h.rf.orc.lt;omega
 have g0:S1[S.length]? = some (.cells [.ptr 3 0,.ptr 8 0,.ptr 10 0] 28):=f1.2 _ _ hS13 (by rw [List.getElem?_append_right (Nat.le_refl _),Nat.sub_self];rfl) rfl
 have g1:S1[S.length+1]? = some (.cells (actC a) 49):=f1.2 _ _ (by omega) (by rw [List.getElem?_append_right (by omega),Nat.add_sub_cancel_left];rfl) rfl
 have hkk:∀ e∈([(some 120,S.length),(some 125,S.length),(some 122,S.length+1),(some 127,S.length+1)]:List (Option Nat × Nat)),(e.1,some 123)∈([(some 125,some 123),(some 127,some 123)]:UL)→S1[e.2]? = (S++[.cells [.ptr 3 0,.ptr 8 0,.ptr 10 0] 28,.cells (actC a) 49])[e.2]?:=fun e he _=>by
  have hB:e.2=S.length∨e.2=S.length+1:=by
   simp only [List.mem_cons,List.not_mem_nil,or_false] at he
   (repeat' (obtain he|he:=(he:_∨_)))<;>subst he<;>simp
  rcases hB with hB|hB
  ·rw [hB,g0,List.getElem?_append_right (Nat.le_refl _),Nat.sub_self];rfl
  ·rw [hB,g1,List.getElem?_append_right (by omega),Nat.add_sub_cancel_left];rfl
 refine ⟨S2,L',last',rs',c',b',all',?_,⟨Nat.le_trans (by rw [List.length_append];omega) (f1.trans f2).1,fun i x hi hx hr=>(f1.trans f2).2 i x hi (by rw [List.getElem?_append_left (List.getElem?_eq_some_iff.1 hx).1];exact hx) hr⟩,hs,hst,fun _=>hct⟩
 clear hct hst hs f1 f2 h
 generalize actC a=A at *
 refine acall_fnK cxOk Tryz.func11 (fun _=>false) (fe11.q) (by kernel_rfl) (by dsimp only [Tryz.f11,go_sem,seval,liteO,Option.map,List.map];exact .mk _) ?_
 dsimp only [Tryz.f11,frame0,List.zipIdx,List.map,Nat.reduceAdd]
 repeat' (first|refine aC_seq ?_|refine aC_reg rfl ?_|refine aC_block ?_|refine thenQ_normal ?_|refine aL_nil ?_|(apply aL_step;(·exact True.intro);(iterate 2 (·simp (disch:=omega) only [go_sem,seval,hal,a1,decide_true,decide_false]<;>with_reducible rfl));(·simp only [go_sem]<;>with_reducible rfl))|(refine aC_condT ?_ ?_;(·simp (disch:=omega) only [go_sem,seval]))|(refine aC_condF ?_ ?_;(·simp (disch:=omega) only [go_sem,seval]))|fail)
 refine aC_regB (U:=[(some 125,some 123),(some 127,some 123)]) rfl [(some 120,S.length),(some 125,S.length),(some 122,S.length+1),(some 127,S.length+1)] ?_
 repeat' (first|refine aLB_nil ?_|(apply aLB_step;(·exact True.intro);(·exact (by intro h;cases h));(·rfl);(·simp (disch:=omega) only [go_sem,seval,eq_self]);(·simp (disch:=omega) only [go_sem,seval,hal,a2,g0,g1,eq_self,decide_true]<;>with_reducible rfl);(·simp only [go_sem]<;>with_reducible rfl);(·(intro b hb;first|(cases hb;done)|(simp (disch:=omega) only [loadBox,go_sem,seval] at hb;(try injection hb with hb);subst hb;simp))))|(apply aLB_acall h1;(case hg=>(simp (disch:=omega) only [go_sem,seval,eq_self]));(case hx=>(simp (disch:=omega) only [go_sem,seval]<;>with_reducible rfl));(case ha=>(simp (disch:=omega) only [go_sem,seval]<;>with_reducible rfl));(case he=>(with_reducible rfl));(case hp=>(rfl));(case hf=>(simp only [go_sem]<;>with_reducible rfl));(case hk=>(exact hkk)))|(apply aLB_acall (h2);(case hg=>(simp (disch:=omega) only [go_sem,seval,eq_self]));(case hx=>(simp (disch:=omega) only [go_sem,seval]<;>with_reducible rfl));(case ha=>(simp (disch:=omega) only [go_sem,seval]<;>with_reducible rfl));(case he=>(with_reducible rfl));(case hp=>(rfl));(case hf=>(simp only [go_sem]<;>with_reducible rfl));(case hk=>(simp)))|fail)
 repeat' (first|refine aC_ret ?_|refine thenQ_normal ?_|refine thenQ_ret ?_|refine blockQ_ret ?_|fail)
 all_goals try (first|exact True.intro|exact not_false|omega|(simp (disch:=omega) only [go_sem,seval]<;>omega))
theorem do_8 (h:Sim n S L last rs c b all) (hn:n≤100) {a:Act} (ha:a.Ok) (hk:a.kind=8):∃ (S':St) (L':List It) (last':Nat) (rs':Rs) (c' b':Nat) (all':AVal),ACall cx 11 [.agg [.ptr 3 0,.ptr 8 0,.ptr 10 0],.agg (actC a)] S (.bool true) S'∧Far S S'∧Sim (n+1) S' L' last' rs' c' b' all'∧Stays a.rd rs rs'∧(a.kind≠7→Cts last rs rs' last'):=by
 have hal:=length_actC ha
 have hao:=act_one a
 have a1:=act_1 a
 have a2:=act_2 a
 have a3:=act_3 a
 have a4:=act_4 a
 have a5:=act_5 ha
 have a6:=act_6 ha
 have a7:=act_7 ha
 have a8:=act_8 ha
 rw [hk] at a1
 obtain ⟨er,S1,S2,L',last',rs',c',b',all',h1,f1,h2,f2,hs,hst,hct⟩:=done_settree (h.more [.cells [.ptr 3 0,.ptr 8 0,.ptr 10 0] 28,.cells (actC a) 49]) hn a.rd ha.t
 have hS13:13≤S.length:=by have:=h.rf.orc.lt;omega
 have g0:S1[S.length]? = some (.cells [.ptr 3 0,.ptr 8 0,.ptr 10 0] 28):=f1.2 _ _ hS13 (by rw [List.getElem?_append_right (Nat.le_refl _),Nat.sub_self];rfl) rfl
 have g1:S1[S.length+1]? = some (.cells (actC a) 49):=f1.2 _ _ (by omega) (by rw [List.getElem?_append_right (by omega),Nat.add_sub_cancel_left];rfl) rfl
 have hkk:∀ e∈([(some 159,S.length),(some 166,S.length),(some 161,S.length+1),(some 163,S.length+1),(some 168,S.length+1),(some 170,S.length+1)]:List (Option Nat × Nat)),(e.1,some 164)∈([(some 166,some 164),(some 168,some 164),(some 170,some 164)]:UL)→S1[e.2]? = (S++[.cells [.ptr 3 0,.ptr 8 0,.ptr 10 0] 28,.cells (actC a) 49])[e.2]?:=fun e he _=>by
  have hB:e.2=S.length∨e.2=S.length+1:=by
   simp only [List.mem_cons,List.not_mem_nil,or_false] at he
   (repeat' (obtain he|he:=(he:_∨_)))<;>subst he<;>simp
  rcases hB with hB|hB
  ·rw [hB,g0,List.getElem?_append_right (Nat.le_refl _),Nat.sub_self];rfl
  ·rw [hB,g1,List.getElem?_append_right (by omega),Nat.add_sub_cancel_left];rfl
 refine ⟨S2,L',last',rs',c',b',all',?_,⟨Nat.le_trans (by rw [List.length_append];omega) (f1.trans f2).1,fun i x hi hx hr=>(f1.trans f2).2 i x hi (by rw [List.getElem?_append_left (List.getElem?_eq_some_iff.1 hx).1];exact hx) hr⟩,hs,hst,fun _=>hct⟩
 clear hct hst hs f1 f2 h
 generalize actC a=A at *
 refine acall_fnK cxOk Tryz.func11 (fun _=>false) (fe11.q) (by kernel_rfl) (by dsimp only [Tryz.f11,go_sem,seval,liteO,Option.map,List.map];exact .mk _) ?_
 dsimp only [Tryz.f11,frame0,List.zipIdx,List.map,Nat.reduceAdd]
 repeat' (first|refine aC_seq ?_|refine aC_reg rfl ?_|refine aC_block ?_|refine thenQ_normal ?_|refine aL_nil ?_|(apply aL_step;(·exact True.intro);(iterate 2 (·simp (disch:=omega) only [go_sem,seval,hal,a1,decide_true,decide_false]<;>with_reducible rfl));(·simp only [go_sem]<;>with_reducible rfl))|(refine aC_condT ?_ ?_;(·simp (disch:=omega) only [go_sem,seval]))|(refine aC_condF ?_ ?_;(·simp (disch:=omega) only [go_sem,seval]))|fail)
 refine aC_regB (U:=[(some 166,some 164),(some 168,some 164),(some 170,some 164)]) rfl [(some 159,S.length),(some 166,S.length),(some 161,S.length+1),(some 163,S.length+1),(some 168,S.length+1),(some 170,S.length+1)] ?_
 repeat' (first|refine aLB_nil ?_|(apply aLB_step;(·exact True.intro);(·exact (by intro h;cases h));(·rfl);(·simp (disch:=omega) only [go_sem,seval,eq_self]);(·simp (disch:=omega) only [go_sem,seval,hal,a2,a6,g0,g1,eq_self,decide_true]<;>with_reducible rfl);(·simp only [go_sem]<;>with_reducible rfl);(·(intro b hb;first|(cases hb;done)|(simp (disch:=omega) only [loadBox,go_sem,seval] at hb;(try injection hb with hb);subst hb;simp))))|(apply aLB_acall h1;(case hg=>(simp (disch:=omega) only [go_sem,seval,eq_self]));(case hx=>(simp (disch:=omega) only [go_sem,seval]<;>with_reducible rfl));(case ha=>(simp (disch:=omega) only [go_sem,seval]<;>with_reducible rfl));(case he=>(with_reducible rfl));(case hp=>(rfl));(case hf=>(simp only [go_sem]<;>with_reducible rfl));(case hk=>(exact hkk)))|(apply aLB_acall (h2);(case hg=>(simp (disch:=omega) only [go_sem,seval,eq_self]));(case hx=>(simp (disch:=omega) only [go_sem,seval]<;>with_reducible rfl));(case ha=>(simp (disch:=omega) only [go_sem,seval]<;>with_reducible rfl));(case he=>(with_reducible rfl));(case hp=>(rfl));(case hf=>(simp only [go_sem]<;>with_reducible rfl));(case hk=>(simp)))|fail)
 repeat' (first|refine aC_ret ?_|refine thenQ_normal ?_|refine thenQ_ret ?_|refine blockQ_ret ?_|fail)
 all_goals try (first|exact True.intro|exact not_false|omega|(simp (disch:=omega) only [go_sem,seval]<;>omega))
theorem do_9 (h:Sim n S L last rs c b all) (hn:n≤100) {a:Act} (ha:a.Ok) (hk:a.kind=9):∃ (S':St) (L':List It) (last':Nat) (rs':Rs) (c' b':Nat) (all':AVal),ACall cx 11 [.agg [.ptr 3 0,.ptr 8 0,.ptr 10 0],.agg (actC a)] S (.bool true) S'∧Far S S'∧Sim (n+1) S' L' last' rs' c' b' all'∧Stays a.rd rs rs'∧(a.kind≠7→Cts last rs rs' last'):=by
 have hal:=length_actC ha
 have hao:=act_one a
 have a1:=act_1 a
 have a2:=act_2 a
 have a3:=act_3 a
 have a4:=act_4 a
 have a5:=act_5 ha
 have a6:=act_6 ha
 have a7:=act_7 ha
 have a8:=act_8 ha
 rw [hk] at a1
 obtain ⟨er,S1,S2,L',last',rs',c',b',all',h1,f1,h2,f2,hs,hst,hct⟩:=done_drop_ (h.more [.cells [.ptr 3 0,.ptr 8 0,.ptr 10 0] 28,.cells (actC a) 49]) hn a.rd
 have hS13:13≤S.length:=by have:=h.rf.orc.lt;omega
 have g0:S1[S.length]? = some (.cells [.ptr 3 0,.ptr 8 0,.ptr 10 0] 28):=f1.2 _ _ hS13 (by rw [List.getElem?_append_right (Nat.le_refl _),Nat.sub_self];rfl) rfl
 have g1:S1[S.length+1]? = some (.cells (actC a) 49):=f1.2 _ _ (by omega) (by rw [List.getElem?_append_right (by omega),Nat.add_sub_cancel_left];rfl) rfl
 have hkk:∀ e∈([(some 176,S.length),(some 181,S.length),(some 178,S.length+1),(some 183,S.length+1)]:List (Option Nat × Nat)),(e.1,some 179)∈([(some 181,some 179),(some 183,some 179)]:UL)→S1[e.2]? = (S++[.cells [.ptr 3 0,.ptr 8 0,.ptr 10 0] 28,.cells (actC a) 49])[e.2]?:=fun e he _=>by
  have hB:e.2=S.length∨e.2=S.length+1:=by
   simp only [List.mem_cons,List.not_mem_nil,or_false] at he
   (repeat' (obtain he|he:=(he:_∨_)))<;>subst he<;>simp
  rcases hB with hB|hB
  ·rw [hB,g0,List.getElem?_append_right (Nat.le_refl _),Nat.sub_self];rfl
  ·rw [hB,g1,List.getElem?_append_right (by omega),Nat.add_sub_cancel_left];rfl
 refine ⟨S2,L',last',rs',c',b',all',?_,⟨Nat.le_trans (by rw [List.length_append];omega) (f1.trans f2).1,fun i x hi hx hr=>(f1.trans f2).2 i x hi (by rw [List.getElem?_append_left (List.getElem?_eq_some_iff.1 hx).1];exact hx) hr⟩,hs,hst,fun _=>hct⟩
 clear hct hst hs f1 f2 h
 generalize actC a=A at *
 refine acall_fnK cxOk Tryz.func11 (fun _=>false) (fe11.q) (by kernel_rfl) (by dsimp only [Tryz.f11,go_sem,seval,liteO,Option.map,List.map];exact .mk _) ?_
 dsimp only [Tryz.f11,frame0,List.zipIdx,List.map,Nat.reduceAdd]
 repeat' (first|refine aC_seq ?_|refine aC_reg rfl ?_|refine aC_block ?_|refine thenQ_normal ?_|refine aL_nil ?_|(apply aL_step;(·exact True.intro);(iterate 2 (·simp (disch:=omega) only [go_sem,seval,hal,a1,decide_true,decide_false]<;>with_reducible rfl));(·simp only [go_sem]<;>with_reducible rfl))|(refine aC_condT ?_ ?_;(·simp (disch:=omega) only [go_sem,seval]))|(refine aC_condF ?_ ?_;(·simp (disch:=omega) only [go_sem,seval]))|fail)
 refine aC_regB (U:=[(some 181,some 179),(some 183,some 179)]) rfl [(some 176,S.length),(some 181,S.length),(some 178,S.length+1),(some 183,S.length+1)] ?_
 repeat' (first|refine aLB_nil ?_|(apply aLB_step;(·exact True.intro);(·exact (by intro h;cases h));(·rfl);(·simp (disch:=omega) only [go_sem,seval,eq_self]);(·simp (disch:=omega) only [go_sem,seval,hal,a2,g0,g1,eq_self,decide_true]<;>with_reducible rfl);(·simp only [go_sem]<;>with_reducible rfl);(·(intro b hb;first|(cases hb;done)|(simp (disch:=omega) only [loadBox,go_sem,seval] at hb;(try injection hb with hb);subst hb;simp))))|(apply aLB_acall h1;(case hg=>(simp (disch:=omega) only [go_sem,seval,eq_self]));(case hx=>(simp (disch:=omega) only [go_sem,seval]<;>with_reducible rfl));(case ha=>(simp (disch:=omega) only [go_sem,seval]<;>with_reducible rfl));(case he=>(with_reducible rfl));(case hp=>(rfl));(case hf=>(simp only [go_sem]<;>with_reducible rfl));(case hk=>(exact hkk)))|(apply aLB_acall (h2);(case hg=>(simp (disch:=omega) only [go_sem,seval,eq_self]));(case hx=>(simp (disch:=omega) only [go_sem,seval]<;>with_reducible rfl));(case ha=>(simp (disch:=omega) only [go_sem,seval]<;>with_reducible rfl));(case he=>(with_reducible rfl));(case hp=>(rfl));(case hf=>(simp only [go_sem]<;>with_reducible rfl));(case hk=>(simp)))|fail)
 repeat' (first|refine aC_ret ?_|refine thenQ_normal ?_|refine thenQ_ret ?_|refine blockQ_ret ?_|fail)
 all_goals try (first|exact True.intro|exact not_false|omega|(simp (disch:=omega) only [go_sem,seval]<;>omega))
end
end
end Go.Am
