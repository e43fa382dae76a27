/- Chapter 25's rows by the kernel. -/
import Derived.Test.YtodiaabcaahnjaaGreatDoorAmFreshG
set_option linter.unusedVariables false
set_option linter.unusedSimpArgs false
section
namespace Go.Am
open Go Go.Proofs
set_option maxHeartbeats 8000000
set_option maxRecDepth 100000
theorem told_word:APure cx 29 [.int .i64 2,.agg [.int .i64 0,.int .u64 0,.int .u64 0,.int .u64 0,.int .u64 0,.int .u64 5,.bool true,.int .u64 0]] (.str [119,111,114,100,32,53]) :=
 xPure_ok tabOk 1000 (e:=fe29) (by kernel_rfl) (by decide) (by kernel_rfl)
theorem told_code:APure cx 29 [.int .i64 1,.agg [.int .i64 6,.int .u64 0,.int .u64 0,.int .u64 0,.int .u64 0,.int .u64 0,.bool false,.int .u64 0]] (.str [99,111,100,101,32,54,32,48,32,48,32,48,32,48]) :=
 xPure_ok tabOk 1000 (e:=fe29) (by kernel_rfl) (by decide) (by kernel_rfl)
theorem wrong_gran:APure cx 17 [.str [103,114,97,110,117,108,101,115,32,50,10,105,100,101,97,108,10],.int .i64 2] (.bool true) :=
 xPure_ok tabOk 1000 (e:=fe17) (by kernel_rfl) (by decide) (by kernel_rfl)
end Go.Am
end
section
namespace Go.Am
open Go Go.Proofs
set_option maxHeartbeats 8000000
set_option maxRecDepth 100000
section
attribute [local irreducible] aC aL thenQ blockQ scopeQ ALoop AWp
theorem PLW_0:placeOf cx.T ⟨(.struct #[⟨ "Code", 70,0,false, "", "", 0⟩,⟨ "Out", 71,1,false, "", "", 8⟩,⟨ "Word", 25,5,false, "", "", 40⟩,⟨ "Ok", 4,6,false, "", "", 48⟩,⟨ "Instance", 25,7,false, "", "", 56⟩]),8,64,[(.int .i64 0),(.int .u64 0),(.int .u64 0),(.int .u64 0),(.int .u64 0),(.int .u64 0),(.bool false),(.int .u64 0)]⟩ 0=some (0,1):=by kernel_rfl
attribute [go_sem] PLW_0
theorem PLW_1:placeOf cx.T ⟨(.struct #[⟨ "Code", 70,0,false, "", "", 0⟩,⟨ "Out", 71,1,false, "", "", 8⟩,⟨ "Word", 25,5,false, "", "", 40⟩,⟨ "Ok", 4,6,false, "", "", 48⟩,⟨ "Instance", 25,7,false, "", "", 56⟩]),8,64,[(.int .i64 0),(.int .u64 0),(.int .u64 0),(.int .u64 0),(.int .u64 0),(.int .u64 0),(.bool false),(.int .u64 0)]⟩ 1=some (1,4):=by kernel_rfl
attribute [go_sem] PLW_1
theorem PLW_2:placeOf cx.T ⟨(.struct #[⟨ "Code", 70,0,false, "", "", 0⟩,⟨ "Out", 71,1,false, "", "", 8⟩,⟨ "Word", 25,5,false, "", "", 40⟩,⟨ "Ok", 4,6,false, "", "", 48⟩,⟨ "Instance", 25,7,false, "", "", 56⟩]),8,64,[(.int .i64 0),(.int .u64 0),(.int .u64 0),(.int .u64 0),(.int .u64 0),(.int .u64 0),(.bool false),(.int .u64 0)]⟩ 2=some (5,1):=by kernel_rfl
attribute [go_sem] PLW_2
theorem PLW_3:placeOf cx.T ⟨(.struct #[⟨ "Code", 70,0,false, "", "", 0⟩,⟨ "Out", 71,1,false, "", "", 8⟩,⟨ "Word", 25,5,false, "", "", 40⟩,⟨ "Ok", 4,6,false, "", "", 48⟩,⟨ "Instance", 25,7,false, "", "", 56⟩]),8,64,[(.int .i64 0),(.int .u64 0),(.int .u64 0),(.int .u64 0),(.int .u64 0),(.int .u64 0),(.bool false),(.int .u64 0)]⟩ 3=some (6,1):=by kernel_rfl
attribute [go_sem] PLW_3
theorem PLW_4:placeOf cx.T ⟨(.struct #[⟨ "Code", 70,0,false, "", "", 0⟩,⟨ "Out", 71,1,false, "", "", 8⟩,⟨ "Word", 25,5,false, "", "", 40⟩,⟨ "Ok", 4,6,false, "", "", 48⟩,⟨ "Instance", 25,7,false, "", "", 56⟩]),8,64,[(.int .i64 0),(.int .u64 0),(.int .u64 0),(.int .u64 0),(.int .u64 0),(.int .u64 0),(.bool false),(.int .u64 0)]⟩ 4=some (7,1):=by kernel_rfl
attribute [go_sem] PLW_4
theorem law_num25 (n:Int):APure cx 12 [.int .i64 n] (.int .i64 n):=by
 refine pure_fnK cxOk Tryz.func12 (fun _=>false) (fun _=>none) (by kernel_rfl) (by dsimp only [Tryz.f12,go_sem,seval,liteO,Option.map,List.map];exact .mk _) ?_
 dsimp only [Tryz.f12,frame0,List.zipIdx,List.map,Nat.reduceAdd]
 try simp only [List.getElem?_toArray,List.getElem?_cons_succ,List.getElem?_cons_zero,Option.bind_some]
 repeat' (first|refine aC_seq ?_|refine aC_reg rfl ?_|refine aC_ret ?_|refine thenQ_normal ?_|refine aL_nil ?_|(apply aL_step;(·exact True.intro);(iterate 2 (·simp (disch:=omega) only [go_sem,seval]<;>with_reducible rfl));(·simp only [go_sem]<;>with_reducible rfl))|fail)
 all_goals try (first|exact True.intro|exact not_false|omega|(simp (disch:=omega) only [go_sem,seval]<;>omega))
 all_goals try (simp (disch:=omega) only [go_sem,seval])
 all_goals try simp
theorem line_store:APure cx 28 [.agg [.int .i64 3,.int .i64 0,.int .u64 0,.int .u64 0,.int .u64 0,.int .u64 0,.int .u64 0,.int .u64 0,.int .u64 8,.int .u64 7,.sl 1 true [] .any]] (.tup [.str [115,116,111,114,101,32,56,32,55],.int .i64 0]) :=
 xPure_ok tabOk 1000 (e:=fe28) (by kernel_rfl) (by decide) (by kernel_rfl)
theorem is_load8:IsStep [108,111,97,100,32,56] ⟨2,0,Z6,8,0,[]⟩ :=
 ⟨.inr ⟨⟨rfl,rfl⟩,.inl ⟨rfl,rfl,rfl⟩⟩,⟨rfl,by decide,(show (8:Nat)<18446744073709551616 by decide),(show (0:Nat)<18446744073709551616 by decide),by simp⟩,by decide +kernel⟩
theorem is_verify:IsStep [118,101,114,105,102,121] ⟨4,0,Z6,0,0,[]⟩ :=
 ⟨.inr ⟨⟨rfl,rfl⟩,.inr (.inr ⟨rfl,rfl,rfl,by simp⟩)⟩,⟨rfl,by decide,(show (0:Nat)<18446744073709551616 by decide),(show (0:Nat)<18446744073709551616 by decide),by simp⟩,by decide +kernel⟩
theorem no_load08:∀ st,¬ IsStep [108,111,97,100,32,48,56] st:=by
 intro st h
 by_cases h1:st.k=1
 ·obtain ⟨hc,_⟩:=step_call h h1
  have hp:=call_parts hc
  rw [show ([108,111,97,100,32,48,56]:List UInt8)=LOAD++32::[48,56] from rfl,parts_hit 32 _ _ (by decide)] at hp
  exact (cnm_ne hc.1.1).1 (List.cons.inj hp).1.symm
 ·have e:=cand_is h h1
  have e2:lineS (cand [108,111,97,100,32,48,56])≠[108,111,97,100,32,48,56]:=by decide +kernel
  rw [e] at e2
  exact e2 h.2.2
theorem script_known:APure cx 8 [] (.bool true):=by
 have u1:=script_Unline [108,111,97,100,32,56] (by decide) _ (.inl ⟨_,is_load8,rfl⟩)
 have u2:=script_Unline [108,111,97,100,32,48,56] (by decide) _ (.inr ⟨no_load08,rfl⟩)
 have u3:=script_Unline [118,101,114,105,102,121] (by decide) _ (.inl ⟨_,is_verify,rfl⟩)
 have s1:=ref_SameStep ⟨2,0,Z6,8,0,[]⟩ ⟨2,0,Z6,8,0,[]⟩ rfl rfl (by simp) (by simp) true true
 have s2:=ref_SameStep ⟨4,0,Z6,0,0,[]⟩ ⟨4,0,Z6,0,0,[]⟩ rfl rfl (by simp) (by simp) true true
 have q0:=law_num25 0
 have q4:=law_num25 4
 have l1:=line_store
 have t1:=told_word
 have t2:=told_code
 have w1:=wrong_gran
 have nz8:((8:Nat):Int)=8:=rfl
 rw [decide_eq_true rfl] at s1 s2
 simp only [Sp.zero,Z6,spC_six,bl_nil,nz,nz8,List.isEmpty_nil] at u1 u2 u3 s1 s2
 refine pure_fnK cxOk Tryz.func8 (fun _=>false) (fe8.q) (by kernel_rfl) (by dsimp only [Tryz.f8,go_sem,seval,liteO,Option.map,List.map];exact .mk _) ?_
 dsimp only [Tryz.f8,frame0,List.zipIdx,List.map,Nat.reduceAdd]
 try simp only [List.getElem?_toArray,List.getElem?_cons_succ,List.getElem?_cons_zero,Option.bind_some]
 repeat' (first|refine aC_seq ?_|refine aC_reg rfl ?_|refine aC_ret ?_|refine thenQ_normal ?_|refine aL_nil ?_|(apply aL_step;(·exact True.intro);(iterate 2 (·simp (disch:=omega) only [go_sem,seval,eq_self_iff_true,decide_true]<;>with_reducible rfl));(·simp only [go_sem]<;>with_reducible rfl))|(apply aL_pK cxG (l1);(iterate 2 (·simp (disch:=omega) only [go_sem,seval,eq_self_iff_true,decide_true]<;>with_reducible rfl));(·simp only [go_sem]<;>with_reducible rfl);(·simp))|(apply aL_pK cxG (u1);(iterate 2 (·simp (disch:=omega) only [go_sem,seval,eq_self_iff_true,decide_true]<;>with_reducible rfl));(·simp only [go_sem]<;>with_reducible rfl);(·simp))|(apply aL_pK cxG (u2);(iterate 2 (·simp (disch:=omega) only [go_sem,seval,eq_self_iff_true,decide_true]<;>with_reducible rfl));(·simp only [go_sem]<;>with_reducible rfl);(·simp))|(apply aL_pK cxG (u3);(iterate 2 (·simp (disch:=omega) only [go_sem,seval,eq_self_iff_true,decide_true]<;>with_reducible rfl));(·simp only [go_sem]<;>with_reducible rfl);(·simp))|(apply aL_pK cxG (s1);(iterate 2 (·simp (disch:=omega) only [go_sem,seval,eq_self_iff_true,decide_true]<;>with_reducible rfl));(·simp only [go_sem]<;>with_reducible rfl);(·simp))|(apply aL_pK cxG (s2);(iterate 2 (·simp (disch:=omega) only [go_sem,seval,eq_self_iff_true,decide_true]<;>with_reducible rfl));(·simp only [go_sem]<;>with_reducible rfl);(·simp))|(apply aL_pK cxG (q0);(iterate 2 (·simp (disch:=omega) only [go_sem,seval,eq_self_iff_true,decide_true]<;>with_reducible rfl));(·simp only [go_sem]<;>with_reducible rfl);(·simp))|(apply aL_pK cxG (q4);(iterate 2 (·simp (disch:=omega) only [go_sem,seval,eq_self_iff_true,decide_true]<;>with_reducible rfl));(·simp only [go_sem]<;>with_reducible rfl);(·simp))|(apply aL_pK cxG (t1);(iterate 2 (·simp (disch:=omega) only [go_sem,seval,eq_self_iff_true,decide_true]<;>with_reducible rfl));(·simp only [go_sem]<;>with_reducible rfl);(·simp))|(apply aL_pK cxG (t2);(iterate 2 (·simp (disch:=omega) only [go_sem,seval,eq_self_iff_true,decide_true]<;>with_reducible rfl));(·simp only [go_sem]<;>with_reducible rfl);(·simp))|(apply aL_pK cxG (w1);(iterate 2 (·simp (disch:=omega) only [go_sem,seval,eq_self_iff_true,decide_true]<;>with_reducible rfl));(·simp only [go_sem]<;>with_reducible rfl);(·simp))|fail)
 all_goals try (first|exact True.intro|exact not_false|omega|(simp (disch:=omega) only [go_sem,seval]<;>omega))
 all_goals clear u1 u2 u3 s1 s2 q0 q4 l1 t1 t2 w1
 all_goals try (simp (disch:=omega) only [go_sem,seval])
 all_goals try simp
end
end Go.Am
end
section
namespace Go.Am
open Go Go.Proofs
set_option maxHeartbeats 8000000
set_option maxRecDepth 100000
section
attribute [local irreducible] aC aL thenQ blockQ scopeQ ALoop AWp
end
end Go.Am
end
