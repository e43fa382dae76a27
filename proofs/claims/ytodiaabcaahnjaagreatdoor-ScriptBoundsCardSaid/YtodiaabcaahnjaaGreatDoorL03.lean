/- Which calls may be: call.may, call.May, the document's May. -/
import Derived.Test.YtodiaabcaahnjaaGreatDoorL01
import Derived.Test.YtodiaabcaahnjaaGreatDoorAmFreshZ
import Derived.Test.YtodiaabcaahnjaaGreatDoorP01
set_option linter.unusedVariables false
set_option linter.unusedSimpArgs false
section
namespace Go.Am
open Go Go.Proofs
set_option maxHeartbeats 4000000
set_option maxRecDepth 100000
section
attribute [local irreducible] aC aL thenQ blockQ scopeQ ALoop AWp
theorem may1 (x:Int):APure cx 114 [.int .u64 x] (.bool (decide (¬ x=0))):=by
 refine pure_fnK cxOk Tryz.func114 (fun _=>false) (fun _=>none) (by kernel_rfl) (by dsimp only [Tryz.f114,go_sem,seval,liteO,Option.map,List.map];exact .mk _) ?_
 dsimp only [Tryz.f114,frame0,List.zipIdx,List.map,Nat.reduceAdd]
 try simp only [List.getElem?_toArray,List.getElem?_cons_succ,List.getElem?_cons_zero,Option.bind_some]
 repeat' (first|refine aC_seq ?_|refine aC_reg rfl ?_|refine aC_ret ?_|refine thenQ_normal ?_|refine aL_nil ?_|(apply aL_step;(·exact True.intro);(iterate 2 (·simp (disch:=omega) only [go_sem,seval]<;>with_reducible rfl));(·simp only [go_sem]<;>with_reducible rfl))|fail)
 all_goals try (first|exact True.intro|exact not_false|omega|(simp (disch:=omega) only [go_sem,seval]<;>omega))
 all_goals try (simp (disch:=omega) only [go_sem,seval])
 all_goals try simp
theorem index_words (nl:Bool) (l:List Nat) (hl:l.length≤1000):∃ r:Int,(0≤r↔∃ x∈l,x≠0)∧APure cx 129 [.sl 1 nl (wl l) .any,.fn (.func 114) [] []] (.int .i64 r):=by
 have main:∀ r:Int,((r = -1∧∀ x∈l,x=0)∨(∃ k,k<l.length∧r=(k:Int)∧l.getD k 0≠0∧∀ j,j<k→l.getD j 0=0))→APure cx 129 [.sl 1 nl (wl l) .any,.fn (.func 114) [] []] (.int .i64 r):=by
  intro r hr
  have hyes:∀ k,k<l.length→l.getD k 0≠0→(∀ j,j<k→l.getD j 0=0)→r=(k:Int):=by
   intro k hk h1 h2
   rcases hr with ⟨_,h⟩|⟨q,hq,rfl,g1,g2⟩
   ·exact absurd (h (l.getD k 0) (by simp [List.getD,hk])) h1
   ·rcases Nat.lt_trichotomy q k with h|h|h
    ·exact absurd (h2 q h) g1
    ·rw [h]
    ·exact absurd (g2 k h) h1
  have hno:(∀ j,j<l.length→l.getD j 0=0)→r = -1:=by
   intro h
   rcases hr with ⟨e,_⟩|⟨q,hq,rfl,g1,_⟩
   ·exact e
   ·exact absurd (h q hq) g1
  clear hr
  refine pure_fnK cxOk Tryz.func129 (fun _=>false) (fun _=>none) (by kernel_rfl) (by dsimp only [Tryz.f129,go_sem,seval,liteO,Option.map,List.map];exact .mk _) ?_
  dsimp only [Tryz.f129,frame0,List.zipIdx,List.map,Nat.reduceAdd]
  try simp only [List.getElem?_toArray,List.getElem?_cons_succ,List.getElem?_cons_zero,Option.bind_some]
  repeat' (first|refine aC_seq ?_|refine aC_reg rfl ?_|refine aC_block ?_|refine aC_loop ?_|refine thenQ_normal ?_|refine aL_nil ?_|(apply aL_step;(·exact True.intro);(iterate 2 (·simp (disch:=omega) only [go_sem,seval]<;>with_reducible rfl));(·simp only [go_sem]<;>with_reducible rfl))|fail)
  ·refine loop_rule (cxOk.wp _ _) (σ:=Nat) (fun k=>[(8,.int .i64 k),(7,.int .i64 l.length),(1,.fn (.func 114) [] []),(0,.sl 1 nl (wl l) .any)])
    (fun _=>[]) (fun k=>l.length-k) (fun k=>k≤l.length∧∀ j,j<k→l.getD j 0=0) 0 (GStep.refl _ _) ⟨⟨Nat.zero_le _,fun _ h=>by omega⟩,Sub.of_all (by simp [Fr.get,frame0]),rfl⟩ ?_
   rintro k ⟨hk,hJ⟩
   by_cases hlt:k<l.length
   ·have hgd:(wl l).getD k .any = .int .u64 ((l.getD k 0:Nat):Int):=getD_wl l k _ hlt
    have hm:=may1 ((l.getD k 0:Nat):Int)
    by_cases h0:l.getD k 0=0
    ·rw [decide_eq_false (by omega)] at hm
     have hJ':∀ j,j<k+1→l.getD j 0=0:=fun j hj=>by
      by_cases e:j=k
      ·rw [e];exact h0
      ·exact hJ j (by omega)
     clear hyes hno
     repeat' (first|refine aC_seq ?_|refine aC_reg rfl ?_|refine aC_block ?_|refine aC_skip ?_|refine thenQ_normal ?_|refine blockQ_normal ?_|refine aL_nil ?_|(apply aL_step;(·exact True.intro);(iterate 2 (·simp (disch:=omega) only [go_sem,seval,hgd]<;>with_reducible rfl));(·simp only [go_sem]<;>with_reducible rfl))|(refine aC_condF ?_ ?_;(·simp (disch:=omega) only [go_sem,seval,hgd]))|(refine aC_condP (by simp (disch:=omega) only [go_sem,seval,hgd]<;>with_reducible rfl) ?_ ?_<;>(intro h;first|(exfalso;omega)|skip))|(apply aL_pure cxG (hm);(case hg=>(simp (disch:=omega) only [go_sem,seval,hgd]));(case hx=>(simp (disch:=omega) only [go_sem,seval,hgd]<;>with_reducible rfl));(case ha=>(simp (disch:=omega) only [go_sem,seval,hgd]<;>with_reducible rfl));(case he=>(simp only [go_sem]<;>with_reducible rfl));(case hcl=>(simp));(case hf=>(simp only [go_sem]<;>with_reducible rfl)))|fail)
     all_goals try (first|exact True.intro|exact not_false|omega|(simp (disch:=omega) only [go_sem,seval]<;>omega))
     all_goals exact ⟨k+1,⟨by omega,hJ'⟩,Sub.of_all (by simp [Fr.get]),rfl,by omega⟩
    ·rw [decide_eq_true (by omega)] at hm
     rw [hyes k hlt h0 hJ]
     clear hyes hno
     repeat' (first|refine aC_seq ?_|refine aC_reg rfl ?_|refine aC_block ?_|refine aC_skip ?_|refine aC_ret ?_|refine thenQ_normal ?_|refine thenQ_ret ?_|refine blockQ_ret ?_|refine aL_nil ?_|(apply aL_step;(·exact True.intro);(iterate 2 (·simp (disch:=omega) only [go_sem,seval,hgd]<;>with_reducible rfl));(·simp only [go_sem]<;>with_reducible rfl))|(refine aC_condT ?_ ?_;(·simp (disch:=omega) only [go_sem,seval,hgd]))|(refine aC_condP (by simp (disch:=omega) only [go_sem,seval,hgd]<;>with_reducible rfl) ?_ ?_<;>(intro h;first|(exfalso;omega)|skip))|(apply aL_pure cxG (hm);(case hg=>(simp (disch:=omega) only [go_sem,seval,hgd]));(case hx=>(simp (disch:=omega) only [go_sem,seval,hgd]<;>with_reducible rfl));(case ha=>(simp (disch:=omega) only [go_sem,seval,hgd]<;>with_reducible rfl));(case he=>(simp only [go_sem]<;>with_reducible rfl));(case hcl=>(simp));(case hf=>(simp only [go_sem]<;>with_reducible rfl)))|fail)
     all_goals try (first|exact True.intro|exact not_false|omega|(simp (disch:=omega) only [go_sem,seval]<;>omega))
     all_goals try (simp (disch:=omega) only [go_sem,seval])
     all_goals try simp
   ·have hk':k=l.length:=by omega
    subst hk'
    rw [hno hJ]
    clear hyes hno
    repeat' (first|refine aC_seq ?_|refine aC_reg rfl ?_|refine aC_exit ?_|refine aC_ret ?_|refine thenQ_normal ?_|refine thenQ_exit ?_|refine blockQ_hit ?_|refine aL_nil ?_|(apply aL_step;(·exact True.intro);(iterate 2 (·simp (disch:=omega) only [go_sem,seval]<;>with_reducible rfl));(·simp only [go_sem]<;>with_reducible rfl))|(refine aC_condP (by simp (disch:=omega) only [go_sem,seval]<;>with_reducible rfl) ?_ ?_<;>(intro h;first|(exfalso;omega)|skip))|fail)
    all_goals try (first|exact True.intro|exact not_false|omega|(simp (disch:=omega) only [go_sem,seval]<;>omega))
    all_goals try (simp (disch:=omega) only [go_sem,seval])
    all_goals try simp
  all_goals trivial
 by_cases h:∀ x∈l,x=0
 ·exact ⟨-1,⟨fun h=>by omega,fun ⟨x,hx,hne⟩=>absurd (h x hx) hne⟩,main _ (.inl ⟨rfl,h⟩)⟩
 ·have:∃ k,k<l.length∧l.getD k 0≠0∧∀ j,j<k→l.getD j 0=0:=by
   clear main hl
   induction l with
   |nil=>exact absurd (fun x hx=>by cases hx) h
   |cons y l ih =>
    by_cases hy:y=0
    ·obtain ⟨k,h1,h2,h3⟩:=ih (fun k=>h (fun x hx=>by
      rcases List.mem_cons.1 hx with rfl|hx
      ·exact hy
      ·exact k x hx))
     exact ⟨k+1,by simpa using h1,by simpa using h2,fun j hj=>by
      cases j with
      |zero=>simpa using hy
      |succ j=>simpa using h3 j (by omega)⟩
    ·exact ⟨0,by simp,by simpa using hy,fun j hj=>by omega⟩
  obtain ⟨k,h1,h2,h3⟩:=this
  exact ⟨(k:Int),⟨fun _=>⟨l.getD k 0,by simp [List.getD,h1],h2⟩,fun _=>by omega⟩,main _ (.inr ⟨k,h1,rfl,h2,h3⟩)⟩
theorem contains_words (nl:Bool) (l:List Nat) (hl:l.length≤1000):APure cx 113 [.sl 1 nl (wl l) .any,.fn (.func 114) [] []] (.bool (decide (∃ x∈l,x≠0))):=by
 obtain ⟨r,h1,h2⟩:=index_words nl l hl
 by_cases h:∃ x∈l,x≠0
 case' pos=>rw [decide_eq_true h];have hr:=h1.2 h
 case' neg=>rw [decide_eq_false h];have hr:¬ 0≤r:=fun k=>h (h1.1 k)
 all_goals
 clear h h1
 refine pure_fnK cxOk Tryz.func113 (fun _=>false) (fun _=>none) (by kernel_rfl) (by dsimp only [Tryz.f113,go_sem,seval,liteO,Option.map,List.map];exact .mk _) ?_
 dsimp only [Tryz.f113,frame0,List.zipIdx,List.map,Nat.reduceAdd]
 try simp only [List.getElem?_toArray,List.getElem?_cons_succ,List.getElem?_cons_zero,Option.bind_some]
 repeat' (first|refine aC_seq ?_|refine aC_reg rfl ?_|refine aC_ret ?_|refine thenQ_normal ?_|refine aL_nil ?_|(apply aL_step;(·exact True.intro);(iterate 2 (·simp (disch:=omega) only [go_sem,seval]<;>with_reducible rfl));(·simp only [go_sem]<;>with_reducible rfl))|(apply aL_pK cxG (h2);(iterate 2 (·simp (disch:=omega) only [go_sem,seval]<;>with_reducible rfl));(·simp only [go_sem]<;>with_reducible rfl);(·simp))|fail)
 all_goals try (first|exact True.intro|exact not_false|omega|(simp (disch:=omega) only [go_sem,seval]<;>omega))
 all_goals (clear h2)
 all_goals try (simp (disch:=omega) only [go_sem,seval])
 all_goals try simp
 all_goals omega
def MayC (op:Int) (xs:List Nat):Prop:=(1≤op∧op≤21)∧∀ x∈xs.drop (car op),x=0
instance (op:Int) (xs:List Nat):Decidable (MayC op xs):=by unfold MayC;infer_instance
theorem plain_cv (op:Int) (xs:List Nat):plainV (.agg (.int .i64 op::wl xs))=true:=by
 have:∀ l:List Nat,plainVs (wl l)=true:=fun l=>by
  induction l with
  |nil=>rfl
  |cons a l ih=>rw [cons_wl];simp [plainVs,plainV,ih]
 simp [plainV,plainVs,this xs]
theorem contains_view {S:St} {i:Nat} {c:AVal} {xs:List Nat} {t:TypeId} {k:Nat} (hx:xs.length=6) (hk:k≤6) (hS:S[i]? = some (.cells (c::wl xs) t)) (hc:c.one=true) :
  ACall cx 113 [.view i (1+k) (6-k) (6-k),.fn (.func 114) [] []] S (.bool (decide (∃ x∈xs.drop k,x≠0))) S:=by
 refine APure.lend cxG (contains_words false (xs.drop k) (by simp;omega)) ?_ ?_ ?_ (by simp)
 ·simp only [List.map_cons,List.map_nil,look1,hS]
  rw [Nat.add_comm,List.drop_succ_cons,show List.drop k (wl xs)=wl (xs.drop k) by simp [wl],List.take_of_length_le (by simp;omega)]
 ·intro a ha
  rcases List.mem_cons.1 ha with rfl|ha
  ·refine ⟨by unfold maxLen;omega,_,_,hS,by simp;omega,?_⟩
   intro x hx
   rcases List.mem_cons.1 hx with rfl|hx
   ·exact hc
   ·exact (one_wl xs).2 trivial x hx
  ·rw [List.mem_singleton.1 ha];trivial
 ·intro a ha
  rcases List.mem_cons.1 ha with rfl|ha
  ·simp
  ·rw [List.mem_singleton.1 ha];simp
theorem call_may0 (op:Int) (xs:List Nat) (hx:xs.length=6):ACall cx 95 [.agg (.int .i64 op::wl xs),.map 0] [.mpx TABLE 21] (.bool (decide (MayC op xs))) [.mpx TABLE 21]:=by
 have hl:=look_tbl2 (fun _=>false) (fun _=>none) (S:=[.mpx TABLE 21,.cells (.int .i64 op::wl xs) 28]) (b:=0) op rfl
 have hc:=car_le op
 have hcv:=contains_view (S:=[.mpx TABLE 21,.cells (.int .i64 op::wl xs) 28,.cells [.str (cnm op),.int .i64 (car op:Nat)] 155]) (i:=1) (xs:=xs) (k:=car op) hx (by omega) rfl rfl
 have key:ACall cx 95 [.agg (.int .i64 op::wl xs),.map 0] [.mpx TABLE 21] (.bool (decide (MayC op xs))) [.mpx TABLE 21,.cells (.int .i64 op::wl xs) 28,.cells [.str (cnm op),.int .i64 (car op:Nat)] 155]:=by
  by_cases h:1≤op∧op≤21
  case' pos =>
   rw [decide_eq_true h] at hl
   have hm:decide (MayC op xs) = !decide (∃ x∈xs.drop (car op),x≠0):=by
    rw [not_decide']
    apply decide_eq_decide.2
    unfold MayC
    refine ⟨fun k ⟨x,hx,hne⟩=>hne (k.2 x hx),fun k=>⟨h,fun x hx=>Decidable.byContradiction fun hne=>k ⟨x,hx,hne⟩⟩⟩
   rw [hm]
   generalize decide (∃ x∈xs.drop (car op),x≠0)=b at hcv ⊢
   clear hm
  case' neg =>
   rw [decide_eq_false h] at hl
   rw [decide_eq_false (fun k:MayC op xs=>h k.1)]
  all_goals
  clear h
  generalize cnm op=W at *
  generalize car op=K at *
  refine acall_fnK cxOk Tryz.func95 (fun _=>false) (fun _=>none) (by kernel_rfl) (by dsimp only [Tryz.f95,go_sem,seval,liteO,Option.map,List.map];exact .mk _) ?_
  dsimp only [Tryz.f95,frame0,List.zipIdx,List.map,Nat.reduceAdd]
  try simp only [List.getElem?_toArray,List.getElem?_cons_succ,List.getElem?_cons_zero,Option.bind_some]
  repeat' (first|refine aC_seq ?_|refine aC_reg rfl ?_|refine aC_ret ?_|refine thenQ_normal ?_|refine aL_nil ?_|(apply aL_step;(·exact True.intro);(iterate 2 (·simp (disch:=omega) only [go_sem,seval,Nat.mul_one]<;>with_reducible rfl));(·simp only [go_sem]<;>with_reducible rfl))|(refine aL_skip ?_ (by simp only [go_sem]<;>with_reducible rfl) ?_;(·simp (disch:=omega) only [go_sem,seval,Nat.mul_one]))|(apply aL_lookX (hl);(case hg=>(simp (disch:=omega) only [go_sem,seval,Nat.mul_one]));(case hm=>(simp (disch:=omega) only [go_sem,seval,Nat.mul_one]<;>with_reducible rfl));(case hk=>(simp (disch:=omega) only [go_sem,seval,Nat.mul_one]<;>with_reducible rfl));(case hf=>(simp only [go_sem]<;>with_reducible rfl)))|(apply aL_aK (hcv);(·rfl);(iterate 2 (·simp (disch:=omega) only [go_sem,seval,Nat.mul_one]<;>with_reducible rfl));(·simp only [go_sem]<;>with_reducible rfl))|fail)
  all_goals try (first|exact True.intro|exact not_false|omega|(simp (disch:=omega) only [go_sem,seval]<;>omega))
  all_goals (clear hcv)
  all_goals try (simp (disch:=omega) only [go_sem,seval,Nat.mul_one])
  all_goals try simp
  all_goals exact ⟨tbl_keys op,tbl_one op⟩
 exact ACall.drop cxG key (n:=1) (by simp) rfl (by kernel_rfl)
theorem call_may {op:Int} {xs:List Nat} (hx:xs.length=6) {S:St} {i:Nat} (hS:S[i]? = some (.mpx TABLE 21)):ACall cx 95 [.agg (.int .i64 op::wl xs),.map i] S (.bool (decide (MayC op xs))) S :=
 ACall.lendX cxG (call_may0 op xs hx) (by kernel_rfl) rfl hS rfl fun j h1 h0=>by
  match j,h1 with
  |0,_=>exact .inl ⟨plain_cv op xs,rfl⟩
  |1,_=>exact .inr ⟨rfl,rfl⟩
theorem call_May (op:Int) (xs:List Nat) (hx:xs.length=6):APure cx 54 [.agg (.int .i64 op::wl xs)] (.bool (decide (MayC op xs))):=by
 have hm:=call_may (op:=op) (xs:=xs) hx (S:=[.cells (.int .i64 op::wl xs) 28]++[.mpx TABLE 21]) (i:=1) rfl
 generalize decide (MayC op xs)=b at *
 refine pure_fnK cxOk Tryz.func54 (fun _=>false) (fe54.q) (by kernel_rfl) (by dsimp only [Tryz.f54,go_sem,seval,liteO,Option.map,List.map];exact .mk _) ?_
 dsimp only [Tryz.f54,frame0,List.zipIdx,List.map,Nat.reduceAdd]
 try simp only [List.getElem?_toArray,List.getElem?_cons_succ,List.getElem?_cons_zero,Option.bind_some]
 repeat' (first|refine aC_seq ?_|refine aC_reg rfl ?_|refine thenQ_normal ?_|refine aL_nil ?_|(apply aL_step;(·exact True.intro);(iterate 2 (·simp (disch:=omega) only [go_sem,seval]<;>with_reducible rfl));(·simp only [go_sem]<;>with_reducible rfl))|fail)
 refine aC_regB (U:=[(some 3,some 4)]) rfl [(some 3,0)] ?_
 repeat' (first|refine aLB_nil ?_|(apply aLB_step;(·exact True.intro);(·exact (by intro h;cases h));(·rfl);(·simp (disch:=omega) only [go_sem,seval]);(·simp (disch:=omega) only [go_sem,seval]<;>with_reducible rfl);(·simp only [go_sem]<;>with_reducible rfl);(·(intro b hb;first|(cases hb;done)|(simp (disch:=omega) only [loadBox,go_sem,seval] at hb;(try injection hb with hb);subst hb;simp))))|(apply aLB_acall (call_table _);(case hg=>(simp (disch:=omega) only [go_sem,seval]));(case hx=>(simp (disch:=omega) only [go_sem,seval]<;>with_reducible rfl));(case ha=>(simp (disch:=omega) only [go_sem,seval]<;>with_reducible rfl));(case he=>(with_reducible rfl));(case hp=>(rfl));(case hf=>(simp only [go_sem]<;>with_reducible rfl));(case hk=>(simp)))|(apply aLB_acall (hm);(case hg=>(simp (disch:=omega) only [go_sem,seval]));(case hx=>(simp (disch:=omega) only [go_sem,seval]<;>with_reducible rfl));(case ha=>(simp (disch:=omega) only [go_sem,seval]<;>with_reducible rfl));(case he=>(with_reducible rfl));(case hp=>(rfl));(case hf=>(simp only [go_sem]<;>with_reducible rfl));(case hk=>(simp)))|fail)
 repeat' (first|refine aC_ret ?_|refine thenQ_normal ?_|fail)
 all_goals try (first|exact True.intro|exact not_false|omega|(simp (disch:=omega) only [go_sem,seval]<;>omega))
 all_goals (clear hm)
 all_goals try (simp (disch:=omega) only [go_sem,seval])
 all_goals try simp
end
end Go.Am
end
section
namespace Go.Am
open Go Go.Proofs
set_option maxHeartbeats 4000000
set_option maxRecDepth 100000
section
attribute [local irreducible] aC aL thenQ blockQ scopeQ ALoop AWp
end
end Go.Am
end
