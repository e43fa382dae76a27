/- do: by both, and they do not differ. -/
import Derived.Test.YteemcehaekffeaaGreatQ36
import Derived.Test.YteemcehaekffeaaGreatAmRow
import Derived.Test.YteemcehaekffeaaGreatRows
set_option linter.unusedVariables false
set_option linter.unusedSimpArgs false
section
namespace Go.Am
open Go Go.Proofs
set_option maxHeartbeats 8000000
set_option maxRecDepth 100000
section
attribute [local irreducible] aC aL thenQ blockQ scopeQ ALoop AWp
structure Act where
 kind:Int
 rd:Int
 root:Int
 page:Int
 v:List UInt8
 nodes:Nat
 t:List UInt8
 g:List UInt8
 rp:Rp
structure Act.Ok (a:Act):Prop where
 v:a.v.length=32
 t:a.t.length=32
 g:a.g.length=128
 p:a.rp.Ok
 w:a.rd<9223372036854775808
def actC (a:Act):List AVal:=.int .i64 a.kind :: .int .i64 a.rd :: .int .i64 a.root :: .int .i64 a.page::(bl a.v++(.int .u64 a.nodes::(bl a.t++(bl a.g++rpC a.rp))))
theorem length_actC {a:Act} (h:a.Ok):(actC a).length=207:=by simp [actC,h.v,h.t,h.g,length_rpC h.p]
theorem act_one (a:Act):∀ x∈actC a,x.one=true:=fun x hx=>by
 unfold actC at hx
 simp only [List.mem_cons,List.mem_append] at hx
 rcases hx with rfl|rfl|rfl|rfl|hx|rfl|hx|hx|hx
 ·rfl
 ·rfl
 ·rfl
 ·rfl
 ·exact bl_one _ _ hx
 ·rfl
 ·exact bl_one _ _ hx
 ·exact bl_one _ _ hx
 ·exact rp_one _ _ hx
theorem act_1 (a:Act):(actC a).take 1=[.int .i64 a.kind]:=rfl
theorem act_2 (a:Act):((actC a).drop 1).take 1=[.int .i64 a.rd]:=rfl
theorem act_3 (a:Act):((actC a).drop 2).take 1=[.int .i64 a.root]:=rfl
theorem act_4 (a:Act):((actC a).drop 3).take 1=[.int .i64 a.page]:=rfl
theorem act_5 {a:Act} (h:a.Ok):((actC a).drop 4).take 33=bl a.v++[.int .u64 a.nodes]:=by
 unfold actC
 simp only [List.drop_succ_cons,List.drop_zero]
 rw [List.take_append,List.take_of_length_le (by rw [length_bl,h.v];decide),length_bl,h.v]
 rfl
theorem act_6 {a:Act} (h:a.Ok):((actC a).drop 37).take 32=bl a.t:=by
 unfold actC
 simp only [List.drop_succ_cons]
 rw [show 33=1+32 from rfl,o_drop h.v,List.drop_succ_cons,List.drop_zero,o_take h.t]
theorem act_7 {a:Act} (h:a.Ok):((actC a).drop 69).take 128=bl a.g:=by
 unfold actC
 simp only [List.drop_succ_cons]
 rw [show 65=33+32 from rfl,o_drop h.v,List.drop_succ_cons,show 32=0+32 from rfl,o_drop h.t,List.drop_zero,List.take_append_of_le_length (by rw [length_bl,h.g];decide),List.take_of_length_le (by rw [length_bl,h.g];decide)]
theorem act_8 {a:Act} (h:a.Ok):((actC a).drop 197).take 10=rpC a.rp:=by
 unfold actC
 simp only [List.drop_succ_cons]
 rw [show 193=161+32 from rfl,o_drop h.v,List.drop_succ_cons,show 160=128+32 from rfl,o_drop h.t,List.drop_append,List.drop_eq_nil_of_le (by rw [length_bl,h.g];decide),length_bl,h.g,List.nil_append,Nat.sub_self,List.drop_zero,List.take_of_length_le (by rw [length_rpC h.p];decide)]
section
variable {n:Nat} {S:St} {L:List It} {last:Nat} {rs:Rs} {c b:Nat} {all:AVal}
def DoR (n:Nat) (S:St) (rs:Rs) (last:Nat) (a:Act):Prop:=∃ (S':St) (L':List It) (last':Nat) (rs':Rs) (c' b':Nat) (all':AVal),ACall cx 11 [.agg [.ptr 4 0,.ptr 9 0,.ptr 11 0],.agg (actC a)] S (.bool true) S'∧Far S S'∧Sim (n+1) S' L' last' rs' c' b' all'∧Stays a.rd rs rs'∧(a.kind≠7→Cts last rs rs' last')
theorem do_by (h:Sim n S L last rs c b all) {a:Act} {fp fr:FuncId} {pa ra:List AVal} {v:AVal} (hD:Done n (S++[.cells [.ptr 4 0,.ptr 9 0,.ptr 11 0] 28,.cells (actC a) 49]) a.rd rs (Cts last rs) fp fr pa ra v v)
  (hw:∀ S1 S2:St,ACall cx fp pa (S++[.cells [.ptr 4 0,.ptr 9 0,.ptr 11 0] 28,.cells (actC a) 49]) v S1→ACall cx fr ra S1 v S2→S1[S.length]? = some (.cells [.ptr 4 0,.ptr 9 0,.ptr 11 0] 28)→S1[S.length+1]? = some (.cells (actC a) 49)→(∀ e:Option Nat × Nat,(e.2=S.length∨e.2=S.length+1)→S1[e.2]? = (S++[.cells [.ptr 4 0,.ptr 9 0,.ptr 11 0] 28,.cells (actC a) 49])[e.2]?)→ACall cx 11 [.agg [.ptr 4 0,.ptr 9 0,.ptr 11 0],.agg (actC a)] S (.bool true) S2):DoR n S rs last a:=by
 obtain ⟨S1,S2,L',last',rs',c',b',all',h1,f1,h2,f2,hs,hst,hct⟩:=hD
 have hS13:14≤S.length:=by have:=h.rf.orc.lt;omega
 have g0:=f1.2 S.length (.cells [.ptr 4 0,.ptr 9 0,.ptr 11 0] 28) (.inr hS13) (by rw [List.getElem?_append_right (Nat.le_refl _),Nat.sub_self];rfl) rfl
 have g1:=f1.2 (S.length+1) (.cells (actC a) 49) (by omega) (by rw [List.getElem?_append_right (by omega),Nat.add_sub_cancel_left];rfl) rfl
 refine ⟨S2,L',last',rs',c',b',all',hw S1 S2 h1 h2 g0 g1 fun e hB=>?_,⟨Nat.le_trans (by rw [List.length_append];omega) (f1.trans f2).1,fun i x hi hx hr=>(f1.trans f2).2 i x hi (by rw [List.getElem?_append_left (List.getElem?_eq_some_iff.1 hx).1];exact hx) hr⟩,hs,hst,fun _=>hct⟩
 rcases hB with hB|hB
 ·rw [hB,g0,List.getElem?_append_right (Nat.le_refl _),Nat.sub_self];rfl
 ·rw [hB,g1,List.getElem?_append_right (by omega),Nat.add_sub_cancel_left];rfl
theorem do_2 (h:Sim n S L last rs c b all) (hn:n≤100) {a:Act} (ha:a.Ok) (hk:a.kind=2):DoR n S rs last a:=by
 have a1:=act_1 a
 rw [hk] at a1
 obtain ⟨er,hD⟩:=done_data (h.more _) hn a.rd a.page ha.g
 refine do_by h hD fun S1 S2 h1 h2 g0 g1 hkk=>oA lq11 ?_
 have F:=pk12 (eq_true (act_one a)) a1 (act_2 a) (act_3 a) (act_4 a) (act_5 ha) (act_6 ha) (act_7 ha) (act_8 ha) (length_actC ha) g0 g1
 refine st F ?_
 refine aC_regB (U:=[(some 65,some 63),(some 67,some 63),(some 69,some 63),(some 71,some 63)]) rfl [(some 56,S.length),(some 65,S.length),(some 58,S.length+1),(some 60,S.length+1),(some 62,S.length+1),(some 67,S.length+1),(some 69,S.length+1),(some 71,S.length+1)] ?_
 refine sb F ?_
 refine ba F h1 ?_ (hk:=fun e he _=>hkk e (by simp only [List.mem_cons,List.not_mem_nil,or_false] at he;(repeat' (obtain he|he:=(he:_∨_)))<;>subst he<;>simp))
 refine sb1 F h2 ?_
 exact wk F
theorem do_3 (h:Sim n S L last rs c b all) (hn:n≤100) {a:Act} (ha:a.Ok) (hk:a.kind=3):DoR n S rs last a:=by
 have a1:=act_1 a
 rw [hk] at a1
 obtain ⟨er,hD⟩:=done_addrec (h.more _) hn a.rd ha.p
 refine do_by h hD fun S1 S2 h1 h2 g0 g1 hkk=>oA lq11 ?_
 have F:=pk12 (eq_true (act_one a)) a1 (act_2 a) (act_3 a) (act_4 a) (act_5 ha) (act_6 ha) (act_7 ha) (act_8 ha) (length_actC ha) g0 g1
 refine st F ?_
 refine aC_regB (U:=[(some 84,some 82),(some 86,some 82),(some 88,some 82)]) rfl [(some 77,S.length),(some 84,S.length),(some 79,S.length+1),(some 81,S.length+1),(some 86,S.length+1),(some 88,S.length+1)] ?_
 refine sb F ?_
 refine ba F h1 ?_ (hk:=fun e he _=>hkk e (by simp only [List.mem_cons,List.not_mem_nil,or_false] at he;(repeat' (obtain he|he:=(he:_∨_)))<;>subst he<;>simp))
 refine sb1 F h2 ?_
 exact wk F
theorem do_4 (h:Sim n S L last rs c b all) (hn:n≤100) {a:Act} (ha:a.Ok) (hk:a.kind=4):DoR n S rs last a:=by
 have a1:=act_1 a
 rw [hk] at a1
 obtain ⟨er,hD⟩:=done_droprec (h.more _) hn a.rd
 refine do_by h hD fun S1 S2 h1 h2 g0 g1 hkk=>oA lq11 ?_
 have F:=pk12 (eq_true (act_one a)) a1 (act_2 a) (act_3 a) (act_4 a) (act_5 ha) (act_6 ha) (act_7 ha) (act_8 ha) (length_actC ha) g0 g1
 refine st F ?_
 refine aC_regB (U:=[(some 99,some 97),(some 101,some 97)]) rfl [(some 94,S.length),(some 99,S.length),(some 96,S.length+1),(some 101,S.length+1)] ?_
 refine sb F ?_
 refine ba F h1 ?_ (hk:=fun e he _=>hkk e (by simp only [List.mem_cons,List.not_mem_nil,or_false] at he;(repeat' (obtain he|he:=(he:_∨_)))<;>subst he<;>simp))
 refine sb1 F h2 ?_
 exact wk F
theorem do_5 (h:Sim n S L last rs c b all) (hn:n≤100) {a:Act} (ha:a.Ok) (hk:a.kind=5):DoR n S rs last a:=by
 have a1:=act_1 a
 rw [hk] at a1
 obtain ⟨er,hD⟩:=done_activate (h.more _) hn a.rd
 refine do_by h hD fun S1 S2 h1 h2 g0 g1 hkk=>oA lq11 ?_
 have F:=pk12 (eq_true (act_one a)) a1 (act_2 a) (act_3 a) (act_4 a) (act_5 ha) (act_6 ha) (act_7 ha) (act_8 ha) (length_actC ha) g0 g1
 refine st F ?_
 refine aC_regB (U:=[(some 112,some 110),(some 114,some 110)]) rfl [(some 107,S.length),(some 112,S.length),(some 109,S.length+1),(some 114,S.length+1)] ?_
 refine sb F ?_
 refine ba F h1 ?_ (hk:=fun e he _=>hkk e (by simp only [List.mem_cons,List.not_mem_nil,or_false] at he;(repeat' (obtain he|he:=(he:_∨_)))<;>subst he<;>simp))
 refine sb1 F h2 ?_
 exact wk F
theorem do_6 (h:Sim n S L last rs c b all) (hn:n≤100) {a:Act} (ha:a.Ok) (hk:a.kind=6):DoR n S rs last a:=by
 have a1:=act_1 a
 rw [hk] at a1
 obtain ⟨er,hD⟩:=done_kill (h.more _) hn a.rd
 refine do_by h hD fun S1 S2 h1 h2 g0 g1 hkk=>oA lq11 ?_
 have F:=pk12 (eq_true (act_one a)) a1 (act_2 a) (act_3 a) (act_4 a) (act_5 ha) (act_6 ha) (act_7 ha) (act_8 ha) (length_actC ha) g0 g1
 refine st F ?_
 refine aC_regB (U:=[(some 125,some 123),(some 127,some 123)]) rfl [(some 120,S.length),(some 125,S.length),(some 122,S.length+1),(some 127,S.length+1)] ?_
 refine sb F ?_
 refine ba F h1 ?_ (hk:=fun e he _=>hkk e (by simp only [List.mem_cons,List.not_mem_nil,or_false] at he;(repeat' (obtain he|he:=(he:_∨_)))<;>subst he<;>simp))
 refine sb1 F h2 ?_
 exact wk F
theorem do_8 (h:Sim n S L last rs c b all) (hn:n≤100) {a:Act} (ha:a.Ok) (hk:a.kind=8):DoR n S rs last a:=by
 have a1:=act_1 a
 rw [hk] at a1
 obtain ⟨er,hD⟩:=done_settree (h.more _) hn a.rd ha.t
 refine do_by h hD fun S1 S2 h1 h2 g0 g1 hkk=>oA lq11 ?_
 have F:=pk12 (eq_true (act_one a)) a1 (act_2 a) (act_3 a) (act_4 a) (act_5 ha) (act_6 ha) (act_7 ha) (act_8 ha) (length_actC ha) g0 g1
 refine st F ?_
 refine aC_regB (U:=[(some 166,some 164),(some 168,some 164),(some 170,some 164)]) rfl [(some 159,S.length),(some 166,S.length),(some 161,S.length+1),(some 163,S.length+1),(some 168,S.length+1),(some 170,S.length+1)] ?_
 refine sb F ?_
 refine ba F h1 ?_ (hk:=fun e he _=>hkk e (by simp only [List.mem_cons,List.not_mem_nil,or_false] at he;(repeat' (obtain he|he:=(he:_∨_)))<;>subst he<;>simp))
 refine sb1 F h2 ?_
 exact wk F
theorem do_9 (h:Sim n S L last rs c b all) (hn:n≤100) {a:Act} (ha:a.Ok) (hk:a.kind=9):DoR n S rs last a:=by
 have a1:=act_1 a
 rw [hk] at a1
 obtain ⟨er,hD⟩:=done_drop_ (h.more _) hn a.rd
 refine do_by h hD fun S1 S2 h1 h2 g0 g1 hkk=>oA lq11 ?_
 have F:=pk12 (eq_true (act_one a)) a1 (act_2 a) (act_3 a) (act_4 a) (act_5 ha) (act_6 ha) (act_7 ha) (act_8 ha) (length_actC ha) g0 g1
 refine st F ?_
 refine aC_regB (U:=[(some 181,some 179),(some 183,some 179)]) rfl [(some 176,S.length),(some 181,S.length),(some 178,S.length+1),(some 183,S.length+1)] ?_
 refine sb F ?_
 refine ba F h1 ?_ (hk:=fun e he _=>hkk e (by simp only [List.mem_cons,List.not_mem_nil,or_false] at he;(repeat' (obtain he|he:=(he:_∨_)))<;>subst he<;>simp))
 refine sb1 F h2 ?_
 exact wk F
end
end
end Go.Am
end
section
namespace Go.Am
open Go Go.Proofs
set_option maxHeartbeats 8000000
set_option maxRecDepth 100000
section
attribute [local irreducible] aC aL thenQ blockQ scopeQ ALoop AWp
section
variable {n:Nat} {S:St} {L:List It} {last:Nat} {rs:Rs} {c b:Nat} {all:AVal}
theorem Far.app (S R:St):Far S (S++R):=⟨by rw [List.length_append];omega,fun i x _ hx _=>by rw [List.getElem?_append_left (List.getElem?_eq_some_iff.1 hx).1];exact hx⟩
theorem do_1_by (hS13:14≤S.length) {a:Act} (ha:a.Ok) (hk:a.kind=1) {R:Rm} (hR:R.Ok) (hlg:R.log.length≤1000000) {er:Int} {S1 S2:St} (f1:Far (S++[.cells [.ptr 4 0,.ptr 9 0,.ptr 11 0] 28,.cells (actC a) 49]) S1) (f2:Far (S1++[.cells (rmC R) 37]) S2)
  (h1:ACall cx 9 [.ptr 9 0,.int .i64 a.rd,.int .i64 a.root,.agg (bl a.v++[.int .u64 a.nodes]),.agg (bl a.t)] (S++[.cells [.ptr 4 0,.ptr 9 0,.ptr 11 0] 28,.cells (actC a) 49]) (.tup [.agg (rmC R),.int .i64 er]) S1) (h2:ACall cx 10 [.ptr 11 0,.int .i64 a.rd,.int .i64 a.root,.agg (bl a.v++[.int .u64 a.nodes]),.agg (bl a.t)] (S1++[.cells (rmC R) 37]) (.tup [.agg (rmC R),.int .i64 er]) S2) :
  ACall cx 11 [.agg [.ptr 4 0,.ptr 9 0,.ptr 11 0],.agg (actC a)] S (.bool true) (S2++[.cells (rmC R) 37]):=by
 have hal:=length_actC ha
 have hao:=act_one a
 have a1:=act_1 a
 have a2:=act_2 a
 have a3:=act_3 a
 have a4:=act_4 a
 have a5:=act_5 ha
 have a6:=act_6 ha
 have a7:=act_7 ha
 have a8:=act_8 ha
 rw [hk] at a1
 have g0:S1[S.length]? = some (.cells [.ptr 4 0,.ptr 9 0,.ptr 11 0] 28):=f1.2 _ _ (.inr hS13) (by rw [List.getElem?_append_right (Nat.le_refl _),Nat.sub_self];rfl) rfl
 have g1:S1[S.length+1]? = some (.cells (actC a) 49):=f1.2 _ _ (by omega) (by rw [List.getElem?_append_right (by omega),Nat.add_sub_cancel_left];rfl) rfl
 have hl1:S.length+2≤S1.length:=by have:=f1.1;rw [List.length_append] at this;exact this
 have g2:S2[S1.length]? = some (.cells (rmC R) 37):=f2.2 _ _ (by omega) (by rw [List.getElem?_append_right (Nat.le_refl _),Nat.sub_self];rfl) rfl
 have hl2:S1.length+1≤S2.length:=by have:=f2.1;rw [List.length_append] at this;exact this
 have hrm:=length_rmC hR
 have hro:=rm_one R
 have hrt:(rmC R).take 103=rmC R:=List.take_of_length_le (by omega)
 have hsm:=fun Q:St=>ref_same_rm (S:=S2++Q) (by rw [List.length_append];omega) hR hlg
 clear f1 f2
 generalize actC a=A at *
 generalize rmC R=rm at *
 refine oA lq11 ?_
 exact wk3 (pk12 @hal @a1 @a2 @a3 @a4 @a5 @a6 @a7 @a8 @g0 @g1 (pk4 @g2 @hrm @hrt @o_put0)) h1 h2 hsm
theorem do_1 (h:Sim n S L last rs c b all) (hn:n≤100) {a:Act} (ha:a.Ok) (hk:a.kind=1):∃ (S':St) (L':List It) (last':Nat) (rs':Rs) (c' b':Nat) (all':AVal),ACall cx 11 [.agg [.ptr 4 0,.ptr 9 0,.ptr 11 0],.agg (actC a)] S (.bool true) S'∧Far S S'∧Sim (n+1) S' L' last' rs' c' b' all'∧Stays a.rd rs rs'∧(a.kind≠7→Cts last rs rs' last'):=by
 have hS13:14≤S.length:=by have:=h.rf.orc.lt;omega
 have err:∀ er:Int,(∀ Q:St,ACall cx 9 [.ptr 9 0,.int .i64 a.rd,.int .i64 a.root,.agg (bl a.v++[.int .u64 a.nodes]),.agg (bl a.t)] (S++Q) (.tup [.agg (rmC zRm),.int .i64 er]) (S++Q))→(∀ Q:St,ACall cx 10 [.ptr 11 0,.int .i64 a.rd,.int .i64 a.root,.agg (bl a.v++[.int .u64 a.nodes]),.agg (bl a.t)] (S++Q) (.tup [.agg (rmC zRm),.int .i64 er]) (S++Q))→∃ (S':St) (L':List It) (last':Nat) (rs':Rs) (c' b':Nat) (all':AVal),ACall cx 11 [.agg [.ptr 4 0,.ptr 9 0,.ptr 11 0],.agg (actC a)] S (.bool true) S'∧Far S S'∧Sim (n+1) S' L' last' rs' c' b' all'∧Stays a.rd rs rs'∧(a.kind≠7→Cts last rs rs' last'):=fun er e1 e2=>by
  have e2':=e2 ([.cells [.ptr 4 0,.ptr 9 0,.ptr 11 0] 28,.cells (actC a) 49]++[.cells (rmC zRm) 37])
  rw [← List.append_assoc] at e2'
  have hc:=do_1_by hS13 ha hk zRm_ok (Nat.zero_le _) (.refl _) (.refl _) (e1 [.cells [.ptr 4 0,.ptr 9 0,.ptr 11 0] 28,.cells (actC a) 49]) e2'
  rw [List.append_assoc,List.append_assoc] at hc
  exact ⟨_,L,last,rs,c,b,all,hc,.app _ _,h.idle.more _,.refl _ _,fun _=>.refl _ _⟩
 by_cases hb:a.rd<0∨a.root<0
 ·exact err 2 (fun Q=>realm_create_arg (h.rz.rms.more Q) hb ha.v ha.t) (fun Q=>ref_create_arg (h.rf.more Q) hb ha.v ha.t)
 rcases hr:at? rs a.rd with _|p
 ·obtain ⟨S1,L',c',R,hl,hP,f1,hQ,hst,_,_,hct,hRo,hRl⟩:=done_create h hn hr (root:=a.root) (by omega) (by omega) ha.w (nodes:=a.nodes) ha.v ha.t
  obtain ⟨S2,b',all',h2,f2,hs⟩:=hQ ([.cells [.ptr 4 0,.ptr 9 0,.ptr 11 0] 28,.cells (actC a) 49]++[.cells (rmC R) 37])
  rw [← List.append_assoc] at h2 f2
  have f1':Far (S++[.cells [.ptr 4 0,.ptr 9 0,.ptr 11 0] 28,.cells (actC a) 49]) (S1++[.cells [.ptr 4 0,.ptr 9 0,.ptr 11 0] 28,.cells (actC a) 49]):=⟨by simp [hl],fun i x hi hx hr=>by
   by_cases hlt:i<S.length
   ·rw [List.getElem?_append_left hlt] at hx
    rw [List.getElem?_append_left (by omega)]
    exact f1.2 i x hi hx hr
   ·rw [List.getElem?_append_right (by omega)] at hx
    rw [List.getElem?_append_right (by omega),hl]
    exact hx⟩
  have hc:=do_1_by hS13 ha hk hRo (by omega) f1' f2 (hP [.cells [.ptr 4 0,.ptr 9 0,.ptr 11 0] 28,.cells (actC a) 49]) h2
  exact ⟨_,L',last+1,_,c',b',all',hc,(((Far.app S [.cells [.ptr 4 0,.ptr 9 0,.ptr 11 0] 28,.cells (actC a) 49]).trans f1').trans (Far.app _ _)).trans (f2.trans (Far.app _ _)),hs.more _,hst,fun _=>hct⟩
 ·obtain ⟨e,he,_,_⟩:=at_some hr
  exact err 7 (fun Q=>realm_create_state (h.rz.rms.more Q) (by omega) (by omega) hr he ha.v ha.t) (fun Q=>ref_create_state (h.rf.more Q) (by have:=h.rl;omega) (by omega) (by omega) hr ha.v ha.t)
theorem do_7_by (hS13:14≤S.length) {a:Act} (ha:a.Ok) (hk:a.kind=7) {m er:Int} {S1 S2:St} (f1:Far (S++[.cells [.ptr 4 0,.ptr 9 0,.ptr 11 0] 28,.cells (actC a) 49]) S1)
  (h1:ACall cx 13 [.ptr 9 0,.int .i64 a.rd] (S++[.cells [.ptr 4 0,.ptr 9 0,.ptr 11 0] 28,.cells (actC a) 49]) (.tup [.int .u64 m,.int .i64 er]) S1) (h2:ACall cx 14 [.ptr 11 0,.int .i64 a.rd] S1 (.tup [.int .u64 m,.int .i64 er]) S2) :
  ACall cx 11 [.agg [.ptr 4 0,.ptr 9 0,.ptr 11 0],.agg (actC a)] S (.bool true) S2:=by
 have hal:=length_actC ha
 have hao:=act_one a
 have a1:=act_1 a
 have a2:=act_2 a
 have a3:=act_3 a
 have a4:=act_4 a
 have a5:=act_5 ha
 have a6:=act_6 ha
 have a7:=act_7 ha
 have a8:=act_8 ha
 rw [hk] at a1
 have g0:S1[S.length]? = some (.cells [.ptr 4 0,.ptr 9 0,.ptr 11 0] 28):=f1.2 _ _ (.inr hS13) (by rw [List.getElem?_append_right (Nat.le_refl _),Nat.sub_self];rfl) rfl
 have g1:S1[S.length+1]? = some (.cells (actC a) 49):=f1.2 _ _ (by omega) (by rw [List.getElem?_append_right (by omega),Nat.add_sub_cancel_left];rfl) rfl
 clear f1
 generalize actC a=A at *
 refine oA lq11 ?_
 exact wk2 (pk11 @hal @a1 @a2 @a3 @a4 @a5 @a6 @a7 @a8 @g0 @g1) h1 h2
theorem do_7 (h:Sim n S L last rs c b all) (hn:n≤100) {a:Act} (ha:a.Ok) (hk:a.kind=7):∃ (S':St) (L':List It) (last':Nat) (rs':Rs) (c' b':Nat) (all':AVal),ACall cx 11 [.agg [.ptr 4 0,.ptr 9 0,.ptr 11 0],.agg (actC a)] S (.bool true) S'∧Far S S'∧Sim (n+1) S' L' last' rs' c' b' all'∧Stays a.rd rs rs'∧(a.kind≠7→Cts last rs rs' last'):=by
 have hS13:14≤S.length:=by have:=h.rf.orc.lt;omega
 rcases hr:at? rs a.rd with _|p
 ·obtain ⟨S1,S2,L',last',rs',c',b',all',h1,f1,h2,f2,hs,hst,_⟩:=done_next_none (h.more [.cells [.ptr 4 0,.ptr 9 0,.ptr 11 0] 28,.cells (actC a) 49]) hn hr
  exact ⟨S2,L',last',rs',c',b',all',do_7_by hS13 ha hk f1 h1 h2,(Far.app S [.cells [.ptr 4 0,.ptr 9 0,.ptr 11 0] 28,.cells (actC a) 49]).trans (f1.trans f2),hs,hst,fun k=>absurd hk k⟩
 ·obtain ⟨e,he,_,_⟩:=at_some hr
  obtain ⟨S1,S2,L',last',rs',c',b',all',h1,f1,h2,f2,hs,hst,_⟩:=done_next (h.more [.cells [.ptr 4 0,.ptr 9 0,.ptr 11 0] 28,.cells (actC a) 49]) hn hr he
  exact ⟨S2,L',last',rs',c',b',all',do_7_by hS13 ha hk f1 h1 h2,(Far.app S [.cells [.ptr 4 0,.ptr 9 0,.ptr 11 0] 28,.cells (actC a) 49]).trans (f1.trans f2),hs,hst,fun k=>absurd hk k⟩
theorem do_other (h:Sim n S L last rs c b all) {a:Act} (ha:a.Ok) (hk:a.kind<1∨9<a.kind):∃ (S':St) (L':List It) (last':Nat) (rs':Rs) (c' b':Nat) (all':AVal),ACall cx 11 [.agg [.ptr 4 0,.ptr 9 0,.ptr 11 0],.agg (actC a)] S (.bool true) S'∧Far S S'∧Sim (n+1) S' L' last' rs' c' b' all'∧Stays a.rd rs rs'∧(a.kind≠7→Cts last rs rs' last'):=by
 have hal:=length_actC ha
 have hao:=act_one a
 have a1:=act_1 a
 have k1:¬ a.kind=1:=by omega
 have k2:¬ a.kind=2:=by omega
 have k3:¬ a.kind=3:=by omega
 have k4:¬ a.kind=4:=by omega
 have k5:¬ a.kind=5:=by omega
 have k6:¬ a.kind=6:=by omega
 have k7:¬ a.kind=7:=by omega
 have k8:¬ a.kind=8:=by omega
 have k9:¬ a.kind=9:=by omega
 refine ⟨S++[.cells [.ptr 4 0,.ptr 9 0,.ptr 11 0] 28,.cells (actC a) 49],L,last,rs,c,b,all,?_,.app _ _,h.idle.more _,.refl _ _,fun _=>.refl _ _⟩
 generalize a.kind=k at *
 generalize actC a=A at *
 refine oA lq11 ?_
 exact wk (pk11 @hal @a1 @k1 @k2 @k3 @k4 @k5 @k6 @k7 @k8 @k9)
theorem do_all (h:Sim n S L last rs c b all) (hn:n≤100) {a:Act} (ha:a.Ok):∃ (S':St) (L':List It) (last':Nat) (rs':Rs) (c' b':Nat) (all':AVal),ACall cx 11 [.agg [.ptr 4 0,.ptr 9 0,.ptr 11 0],.agg (actC a)] S (.bool true) S'∧Far S S'∧Sim (n+1) S' L' last' rs' c' b' all'∧Stays a.rd rs rs'∧(a.kind≠7→Cts last rs rs' last'):=by
 by_cases hk:a.kind<1∨9<a.kind
 ·exact do_other h ha hk
 ·rcases (show a.kind=1∨a.kind=2∨a.kind=3∨a.kind=4∨a.kind=5∨a.kind=6∨a.kind=7∨a.kind=8∨a.kind=9 by omega) with k|k|k|k|k|k|k|k|k
  ·exact do_1 h hn ha k
  ·exact do_2 h hn ha k
  ·exact do_3 h hn ha k
  ·exact do_4 h hn ha k
  ·exact do_5 h hn ha k
  ·exact do_6 h hn ha k
  ·exact do_7 h hn ha k
  ·exact do_8 h hn ha k
  ·exact do_9 h hn ha k
end
end
end Go.Am
end
section
namespace Go.Am
open Go Go.Proofs
set_option maxHeartbeats 8000000
set_option maxRecDepth 100000
section
attribute [local irreducible] aC aL thenQ blockQ scopeQ ALoop AWp
section
variable {S:St} {x a o k l:Nat} {m:List UInt8} {nd:Bool} {dr:List (List UInt8)} {L:List It} {last:Nat} {rs:Rs} {c:Nat}
theorem create0 (h:RzP S x a o k l m nd dr L last rs c) (hLl:L.length≤800000) {rd root:Int} (hr:at? rs rd=none) (h0:0≤rd) (h1:0≤root) (hla:last<4294967296) :
  ACall cx 9 [.ptr x 0,.int .i64 rd,.int .i64 root,.agg (bl [0,0,0,0,0,0,0,0,0,0,0,0,0,0,0,0,0,0,0,0,0,0,0,0,0,0,0,0,0,0,0,0]++[.int .u64 0]),.agg (bl [0,0,0,0,0,0,0,0,0,0,0,0,0,0,0,0,0,0,0,0,0,0,0,0,0,0,0,0,0,0,0,0])] S (.tup [.agg (rmC (crR m dr L last root zq 0 zq)),.int .i64 0]) ((crS S x a o k l m nd dr L last zq).set a (.mp (rmE (rs++[(rd,crR m dr L last root zq 0 zq,c)])) (c+1))) :=
 realm_create h hLl hr h0 h1 hla rfl rfl
theorem create0s (h:RmsP S x a o last rs c) {rd root:Int} (h0:0≤rd) (h1:0≤root) {p:Nat} {e:Int × Rm × Nat} (hp:at? rs rd=some p) (he:rs[p]? = some e) :
  ACall cx 9 [.ptr x 0,.int .i64 rd,.int .i64 root,.agg (bl [0,0,0,0,0,0,0,0,0,0,0,0,0,0,0,0,0,0,0,0,0,0,0,0,0,0,0,0,0,0,0,0]++[.int .u64 0]),.agg (bl [0,0,0,0,0,0,0,0,0,0,0,0,0,0,0,0,0,0,0,0,0,0,0,0,0,0,0,0,0,0,0,0])] S (.tup [.agg (rmC zRm),.int .i64 7]) S :=
 realm_create_state h h0 h1 hp he (v:=zq) (t:=zq) (nodes:=0) rfl rfl
theorem crS_ne (v:List UInt8) {i:Nat} (h0:i≠x) (h1:i≠o) (h2:i≠k) (h3:i≠l):(crS S x a o k l m nd dr L last v)[i]? = S[i]?:=by
 unfold crS
 rw [askS_ne _ _ h1 h2 h3,askS_ne _ _ h1 h2 h3,List.getElem?_set_ne (Ne.symm h0)]
theorem crR_ok (h:RzP S x a o k l m nd dr L last rs c) (root:Int):(crR m dr L last root zq 0 zq).Ok :=
 newR_ok rfl (length_askD h.orc _) (length_askD ((h.setLast 1).ask (crQ1 zq) false rfl).orc _) rfl
end
theorem law_known:APure cx 6 [] (.bool true):=by
 have hb:=beg_at []
 rw [List.nil_append] at hb
 have hl0:(begL 0).length=13:=rfl
 have P0:=beg_rz0.more [.cells [.ptr 3 0,.ptr 8 0,.ptr 10 0] 28]
 have c1:=create0 P0 (rd:=3) (root:=4) (Nat.zero_le _) rfl (by decide) (by decide) (by decide)
 have o1:=crR_ok P0 4
 have P1:=(crS_P P0 zq).set (rs':=[(3,crR zq [] [] 0 4 zq 0 zq,0)]) (c':=1) (fun e he=>by rw [List.mem_singleton.1 he];exact o1)
 have s1:(crR zq [] [] 0 4 zq 0 zq).st=1:=rfl
 have n1:(crR zq [] [] 0 4 zq 0 zq).inst=1:=rfl
 have r1:(crR zq [] [] 0 4 zq 0 zq).recs=0:=rfl
 have hL1:(crL zq [] [] 0 zq).length=2:=by kernel_rfl
 have g1:((crS (begL 0++[.cells [.ptr 3 0,.ptr 8 0,.ptr 10 0] 28]) 8 7 3 2 11 zq true [] [] 0 zq).set 7 (.mp (rmE [(3,crR zq [] [] 0 4 zq 0 zq,0)]) 1))[13]? = some (.cells [.ptr 3 0,.ptr 8 0,.ptr 10 0] 28):=by
  rw [List.getElem?_set_ne (by decide),crS_ne _ (by decide) (by decide) (by decide) (by decide)];rfl
 have l1:((crS (begL 0++[.cells [.ptr 3 0,.ptr 8 0,.ptr 10 0] 28]) 8 7 3 2 11 zq true [] [] 0 zq).set 7 (.mp (rmE [(3,crR zq [] [] 0 4 zq 0 zq,0)]) 1)).length=14:=by rw [List.length_set,length_crS];rfl
 simp only [List.nil_append,Nat.zero_add] at c1 P1
 generalize ((crS (begL 0++[.cells [.ptr 3 0,.ptr 8 0,.ptr 10 0] 28]) 8 7 3 2 11 zq true [] [] 0 zq).set 7 (.mp (rmE [(3,crR zq [] [] 0 4 zq 0 zq,0)]) 1))=T1 at *
 generalize crR zq [] [] 0 4 zq 0 zq=R1 at *
 generalize crL zq [] [] 0 zq=L1 at *
 have c2:=fun R:St=>create0s (P1.more R).rms (rd:=3) (root:=5) (p:=0) (by decide) (by decide) rfl rfl
 have c3:=fun R:St=>realm_activate (P1.more R).rms (rd:=3) (p:=0) rfl rfl s1
 have o2:({ R1 with st:=2 }:Rm).Ok:=⟨o1.m,o1.k,o1.t,o1.l,o1.n⟩
 have P2:=P1.set (rs':=[(3,{ R1 with st:=2 },0)]) (c':=1) (fun e he=>by rw [List.mem_singleton.1 he];exact o2)
 have c4:∀ R:St,ACall cx 22 [.ptr 8 0,.int .i64 3,.int .i64 0,.agg (bl (List.replicate 128 0))] (T1.set 7 (.mp (rmE [(3,{ R1 with st:=2 },0)]) 1)++R) (.int .i64 7) (T1.set 7 (.mp (rmE [(3,{ R1 with st:=2 },0)]) 1)++R):=fun R=>realm_data_state (P2.more R) (rd:=3) (p:=0) rfl rfl (by show ¬ (2:Int)=1;decide) (g:=List.replicate 128 0) (by simp) (pg:=0) (by decide)
 have c5:=fun R:St=>realm_drop (P2.more R).rms (rd:=3) (p:=0) rfl rfl r1
 have P3:=P2.set (rs':=[]) (c':=1) (fun e he=>by cases he)
 have c6:=create0 (P3.more [.cells (rmC R1) 37,.cells (rmC zRm) 37]) (rd:=3) (root:=4) (by omega) rfl (by decide) (by decide) (by decide)
 have n6:(crR zq [] L1 1 4 zq 0 zq).inst=2:=rfl
 have o6:=crR_ok (P3.more [ABox.cells (rmC R1) 37,.cells (rmC zRm) 37]) 4
 generalize crR zq [] L1 1 4 zq 0 zq=R6 at *
 refine oP lq6 ?_
 have i1:=length_rmC o1
 have i6:=length_rmC o6
 have iz:(rmC zRm).length=103:=rfl
 have k1:=eq_true (rm_one R1)
 have k6:=eq_true (rm_one R6)
 have kz:=eq_true (rm_one zRm)
 have t1:(rmC R1).take 103=rmC R1:=List.take_of_length_le (by omega)
 have t6:(rmC R6).take 103=rmC R6:=List.take_of_length_le (by omega)
 have tz:(rmC zRm).take 103=rmC zRm:=rfl
 have q1:=rm_1 R1
 have q6:=rm_1 R6
 rw [n1] at q1
 rw [n6] at q6
 have g6:((crS ((T1.set 7 (.mp (rmE [(3,{ R1 with st:=2 },0)]) 1)).set 7 (.mp (rmE []) 1)++[ABox.cells (rmC R1) 37,.cells (rmC zRm) 37]) 8 7 3 2 11 zq true [] L1 1 zq).set 7 (.mp (rmE [(3,R6,1)]) 2))[14]? = some (.cells (rmC R1) 37):=by
  rw [List.getElem?_set_ne (by decide),crS_ne _ (by decide) (by decide) (by decide) (by decide),List.getElem?_append_right (by rw [List.length_set,List.length_set];omega),List.length_set,List.length_set,l1];rfl
 have l6:((crS ((T1.set 7 (.mp (rmE [(3,{ R1 with st:=2 },0)]) 1)).set 7 (.mp (rmE []) 1)++[ABox.cells (rmC R1) 37,.cells (rmC zRm) 37]) 8 7 3 2 11 zq true [] L1 1 zq).set 7 (.mp (rmE [(3,R6,1)]) 2)).length=16:=by
  rw [List.length_set,length_crS,List.length_append,List.length_set,List.length_set,l1];rfl
 simp only [List.nil_append] at c6
 generalize ((crS ((T1.set 7 (.mp (rmE [(3,{ R1 with st:=2 },0)]) 1)).set 7 (.mp (rmE []) 1)++[ABox.cells (rmC R1) 37,.cells (rmC zRm) 37]) 8 7 3 2 11 zq true [] L1 1 zq).set 7 (.mp (rmE [(3,R6,1)]) 2))=T6 at *
 generalize rmC R1=W1 at *
 generalize rmC zRm=Wz at *
 generalize rmC R6=W6 at *
 have F:=pk12 @hl0 @g1 @l1 @i1 @i6 @iz k1 k6 kz @t1 @t6 (pk6 @tz @q1 @q6 @g6 @l6 @o_put0)
 refine st1 F hb ?_
 refine zT F ?_ ?_
 rotate_left
 ·intro n e h;cases h;kernel_rfl
 refine st1 F c1 ?_
 refine zT F ?_ ?_
 rotate_left
 ·intro n e h;cases h;kernel_rfl
 refine st2 F c2 c3 ?_
 refine zT F ?_ ?_
 rotate_left
 ·intro n e h;cases h;kernel_rfl
 refine zA F (c4 [.cells W1 37,.cells Wz 37]) ?_ (he:=?_)
 rotate_left
 ·rfl
 refine st1 F c5 ?_
 refine zT F ?_ ?_
 rotate_left
 ·intro n e h;cases h;kernel_rfl
 refine st1 F c6 ?_
 simp (disch:=first|omega|(simp only [go_sem];omega)) only [go_sem,seval]
 exact .bool _
end
end Go.Am
end
section
namespace Go.Am
open Go Go.Proofs
set_option maxRecDepth 100000
theorem argC_int {P:Program} {k:Nat} {t:TypeId} {q:IntKind} {cs:List AVal} (hu:P.underlying t=some (.int q)) (h:ArgC P k t cs):∃ n:Int,cs=[.int q n]∧q.min≤n∧n≤q.max:=by
 cases k with
 |zero=>exact h.elim
 |succ k =>
  unfold ArgC at h
  rw [hu] at h
  obtain ⟨n,rfl,hw⟩:=h
  refine ⟨n,rfl,?_⟩
  simpa [Lit.wf] using hw
theorem argC_u64 {k:Nat} {cs:List AVal} (h:ArgC Tryz.prog k 31 cs):∃ n:Nat,cs=[.int .u64 (n:Int)]∧n<18446744073709551616:=by
 obtain ⟨n,rfl,hn0,hn1⟩:=argC_int Tryz.underlying31 h
 have hn0:0≤n:=hn0
 have hn1:n≤18446744073709551615:=hn1
 obtain ⟨w,rfl⟩:=Int.eq_ofNat_of_zero_le hn0
 exact ⟨w,rfl,by omega⟩
theorem argC_bool {k:Nat} {cs:List AVal} (h:ArgC Tryz.prog (k+1) 4 cs):∃ b:Bool,cs=[.bool b]:=by
 unfold ArgC at h
 rw [Tryz.underlying4] at h
 exact h
theorem flat_bytes (ps:List (List AVal)) (h:∀ p∈ps,∃ n:Int,p=[.int .u8 n]∧IntKind.u8.min≤n∧n≤IntKind.u8.max) :
  ∃ L:List UInt8,L.length=ps.length∧ps.flatten=bl L:=by
 induction ps with
 |nil=>exact ⟨[],rfl,rfl⟩
 |cons p ps ih =>
  obtain ⟨n,rfl,hn0,hn1⟩:=h p (List.mem_cons_self ..)
  have hn0:0≤n:=hn0
  have hn1:n≤255:=hn1
  obtain ⟨w,rfl⟩:=Int.eq_ofNat_of_zero_le hn0
  obtain ⟨L,h1,h2⟩:=ih fun q hq=>h q (List.mem_cons_of_mem _ hq)
  have e:(UInt8.ofNat w).toNat=w:=by simp [UInt8.toNat_ofNat'];omega
  refine ⟨UInt8.ofNat w::L,by simp [h1],?_⟩
  rw [List.flatten_cons,h2]
  simp [bl,bv,e]
theorem flat_words (ps:List (List AVal)) (h:∀ p∈ps,∃ n:Nat,p=[.int .u64 (n:Int)]∧n<18446744073709551616) :
  ∃ L:List Nat,L.length=ps.length∧ps.flatten=wl L∧∀ n∈L,n<18446744073709551616:=by
 induction ps with
 |nil=>exact ⟨[],rfl,rfl,fun _ h=>(by cases h)⟩
 |cons p ps ih =>
  obtain ⟨n,rfl,hn⟩:=h p (List.mem_cons_self ..)
  obtain ⟨L,h1,h2,h3⟩:=ih fun q hq=>h q (List.mem_cons_of_mem _ hq)
  refine ⟨n::L,by simp [h1],?_,fun m hm=>?_⟩
  ·rw [List.flatten_cons,h2]
   simp [wl]
  ·rcases List.mem_cons.1 hm with rfl|hm
   ·exact hn
   ·exact h3 m hm
theorem argC_digest {k:Nat} {cs:List AVal} (h:ArgC Tryz.prog (k+2) 34 cs):∃ L:List UInt8,cs=bl L∧L.length=32:=by
 unfold ArgC at h
 rw [Tryz.underlying34] at h
 obtain ⟨qs,rfl,hl,hq⟩:=h
 obtain ⟨L,hL,hf⟩:=flat_bytes qs (fun p hp=>argC_int Tryz.underlying5 (hq p hp))
 exact ⟨L,hf,by omega⟩
theorem argC_granule {k:Nat} {cs:List AVal} (h:ArgC Tryz.prog (k+2) 44 cs):∃ L:List UInt8,cs=bl L∧L.length=128:=by
 unfold ArgC at h
 rw [Tryz.underlying44] at h
 obtain ⟨qs,rfl,hl,hq⟩:=h
 obtain ⟨L,hL,hf⟩:=flat_bytes qs (fun p hp=>argC_int Tryz.underlying5 (hq p hp))
 exact ⟨L,hf,by omega⟩
theorem argC_regs {k:Nat} {cs:List AVal} (h:ArgC Tryz.prog (k+2) 45 cs):∃ L:List Nat,cs=wl L∧L.length=8∧∀ n∈L,n<18446744073709551616:=by
 unfold ArgC at h
 rw [Tryz.underlying45] at h
 obtain ⟨qs,rfl,hl,hq⟩:=h
 obtain ⟨L,hL,hf,hb⟩:=flat_words qs (fun p hp=>argC_u64 (hq p hp))
 exact ⟨L,hf,by omega,hb⟩
theorem argC_recp {k:Nat} {cs:List AVal} (h:ArgC Tryz.prog (k+3) 47 cs):∃ r:Rp,cs=rpC r∧r.Ok:=by
 unfold ArgC at h
 rw [Tryz.underlying47] at h
 obtain ⟨ps,rfl,hps⟩:=h
 cases hps with
 |cons p1 t1 =>
 cases t1 with
 |cons p2 t2 =>
 cases t2 with
 |cons p3 t3 =>
 cases t3
 obtain ⟨pc,rfl,hpc⟩:=argC_u64 p1
 obtain ⟨rg,rfl,hl,hb⟩:=argC_regs p2
 obtain ⟨rn,rfl⟩:=argC_bool p3
 exact ⟨⟨pc,rg,rn⟩,by simp [rpC],⟨hl,hb,hpc⟩⟩
theorem argC_act {k:Nat} {cs:List AVal} (h:ArgC Tryz.prog (k+5) 49 cs):∃ a:Act,cs=actC a∧a.Ok:=by
 unfold ArgC at h
 rw [Tryz.underlying49] at h
 obtain ⟨ps,rfl,hps⟩:=h
 cases hps with
 |cons p1 t1 =>
 cases t1 with
 |cons p2 t2 =>
 cases t2 with
 |cons p3 t3 =>
 cases t3 with
 |cons p4 t4 =>
 cases t4 with
 |cons p5 t5 =>
 cases t5 with
 |cons p6 t6 =>
 cases t6 with
 |cons p7 t7 =>
 cases t7 with
 |cons p8 t8 =>
 cases t8
 obtain ⟨kd,rfl,_⟩:=argC_int Tryz.underlying3 p1
 obtain ⟨rd,rfl,_,hw⟩:=argC_int Tryz.underlying3 p2
 obtain ⟨rt,rfl,_⟩:=argC_int Tryz.underlying3 p3
 obtain ⟨pg,rfl,_⟩:=argC_int Tryz.underlying3 p4
 unfold ArgC at p5
 rw [Tryz.underlying42] at p5
 obtain ⟨us,rfl,hus⟩:=p5
 cases hus with
 |cons u1 v1 =>
 cases v1 with
 |cons u2 v2 =>
 cases v2
 obtain ⟨v,rfl,hv⟩:=argC_digest u1
 obtain ⟨nd,rfl,_⟩:=argC_u64 u2
 obtain ⟨t,rfl,ht⟩:=argC_digest p6
 obtain ⟨g,rfl,hg⟩:=argC_granule p7
 obtain ⟨r,rfl,hr⟩:=argC_recp p8
 exact ⟨⟨kd,rd,rt,pg,v,nd,t,g,r⟩,by simp [actC],⟨hv,ht,hg,hr,by have h2:rd≤9223372036854775807:=hw;show rd<_;omega⟩⟩
theorem list_els {α:Type} {k:Nat} {t:TypeId} (enc:α→List AVal) (Ok:α→Prop) (hw:∀ x,wrapA Tryz.prog t (enc x) = .agg (enc x)) (he:∀ cs,ArgC Tryz.prog k t cs→∃ x,cs=enc x∧Ok x) :
  ∀ xs:List (List AVal),(∀ x∈xs,ArgC Tryz.prog k t x)→∃ l:List α,xs.map (wrapA Tryz.prog t)=gls enc l∧l.length=xs.length∧∀ x∈l,Ok x
 |[],_=>⟨[],rfl,rfl,fun _ h=>by cases h⟩
 |x::xs,h=>by
  obtain ⟨l,h1,h2,h3⟩:=list_els enc Ok hw he xs fun y hy=>h y (List.mem_cons_of_mem _ hy)
  obtain ⟨p,rfl,hp⟩:=he _ (h x (List.mem_cons_self ..))
  refine ⟨p::l,?_,by simp [h2],fun c hc=>?_⟩
  ·rw [List.map_cons,h1,hw];rfl
  ·rcases List.mem_cons.1 hc with rfl|hc
   ·exact hp
   ·exact h3 c hc
theorem arg_acts {v:AVal} (h:ArgV Tryz.prog 9 22 v):∃ (l:List Act) (nl:Bool),v = .sl 207 nl (gls actC l) .any∧(∀ a∈l,a.Ok)∧l.length≤9223372036854775807∧(nl=true→l=[]):=by
 obtain ⟨cs,rfl,h⟩:=h
 unfold ArgC at h
 rw [Tryz.underlying22] at h
 obtain ⟨nl,xs,rfl,hn,hl,hx⟩:=h
 obtain ⟨l,h1,h2,h3⟩:=list_els (k:=8) (t:=49) actC Act.Ok (fun x=>by unfold wrapA;rw [Tryz.underlying49]) (fun cs h=>argC_act (k:=3) h) xs hx
 refine ⟨l,nl,?_,h3,by rw [h2];exact hl,fun h=>?_⟩
 ·unfold wrapA
  rw [Tryz.underlying22]
  show AVal.sl (Tryz.prog.cellsOf 49) nl (xs.map (wrapA Tryz.prog 49)) .any=_
  rw [h1,show Tryz.prog.cellsOf 49=207 by kernel_rfl]
 ·have:=hn h
  subst this
  exact List.length_eq_zero_iff.1 h2
theorem trodAll_lengths {H:Type} {enc:TypeId × Value→H} {P:Program} {w:World} {base:Nat} {sp:Nat→Bool} {hd:Bool}:∀ {ts:List TypeId} {vs:List Value} {ds:List (DataW H)} {ps:List MemPlace},DataW.TrodAll enc P w base sp hd ts vs ds ps→ds.length=ts.length
 |[],[],[],_,_=>rfl
 |t::ts,v::vs,d::ds,_,h=>by
  obtain ⟨p,q,_,h2,_⟩:=h
  simp [trodAll_lengths h2]
 |[],[],_::_,_,h=>h.elim
 |_::_,[],_,_,h=>h.elim
 |[],_::_,_,_,h=>h.elim
 |_::_,_::_,[],_,h=>h.elim
def slicesB (P:Program):Bool:=(List.range P.types.size).all fun t=>match P.underlying t with
 |some (.slice e)=>Nat.blt 0 (P.cellsOf e)
 |_=>true
theorem slicesB_ok {P:Program} (h:slicesB P=true) {t e:TypeId} (ht:t<P.types.size) (he:P.underlying t=some (.slice e)):0<P.cellsOf e:=by
 have:=List.all_eq_true.1 h t (List.mem_range.2 ht)
 rw [he] at this
 exact blt_iff.1 this
end Go.Am
namespace Go.Proofs.YteemcehaekffeaaGreat
theorem own:ownKnob Tryz.prog.godebug=none:=by kernel_rfl
theorem laidOut:laidOutB Tryz.prog=true:=by kernel_rfl
theorem rowed:mapsRowed Tryz.prog=true:=by kernel_rfl
theorem sliced:Go.Am.slicesB Tryz.prog=true:=by kernel_rfl
end Go.Proofs.YteemcehaekffeaaGreat
end
