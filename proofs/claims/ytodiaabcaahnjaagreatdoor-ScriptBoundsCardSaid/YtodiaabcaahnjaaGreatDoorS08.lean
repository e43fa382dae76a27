/- Lines of steps: the document's Unline. -/
import Derived.Test.YtodiaabcaahnjaaGreatDoorS05
import Derived.Test.YtodiaabcaahnjaaGreatDoorL10
set_option linter.unusedVariables false
set_option linter.unusedSimpArgs false
namespace Go.Am
open Go Go.Proofs
set_option maxHeartbeats 8000000
set_option maxRecDepth 100000
section
attribute [local irreducible] aC aL thenQ blockQ scopeQ ALoop AWp
theorem ref_SameStep (s t:Sp) (hs:s.xs.length=6) (ht:t.xs.length=6) (hsb:s.b.length≤1048576) (htb:t.b.length≤1048576) (n1 n2:Bool) :
  APure cx 11 [.agg (spC s n1 .any),.agg (spC t n2 .any)] (.bool (decide (s=t))):=by
 obtain ⟨k,op,xs,a,w,b⟩:=s
 obtain ⟨k',op',xs',a',w',b'⟩:=t
 obtain ⟨x0,x1,x2,x3,x4,x5,rfl⟩:=six hs
 obtain ⟨y0,y1,y2,y3,y4,y5,rfl⟩:=six ht
 rw [spC_six,spC_six]
 have hsm:=ref_same n1 n2 b b' hsb htb
 refine pure_fnK cxOk Tryz.func11 (fun _=>false) (fun _=>none) (by kernel_rfl) (by dsimp only [Tryz.f11,go_sem,seval,liteO,Option.map,List.map];exact .mk _) ?_
 dsimp only [Tryz.f11,frame0,List.zipIdx,List.map,Nat.reduceAdd]
 try simp only [List.getElem?_toArray,List.getElem?_cons_succ,List.getElem?_cons_zero,Option.bind_some]
 repeat' (first|refine aC_seq ?_|refine aC_reg rfl ?_|refine aC_ret ?_|refine thenQ_normal ?_|refine aL_nil ?_|(apply aL_step;(·exact True.intro);(iterate 2 (·simp (disch:=omega) only [go_sem,seval]<;>with_reducible rfl));(·simp only [go_sem]<;>with_reducible rfl))|(refine aL_skip ?_ (by simp only [go_sem]<;>with_reducible rfl) ?_;(·simp (disch:=omega) only [go_sem,seval]))|(apply aL_guardP;(·simp (disch:=omega) only [go_sem,seval]<;>with_reducible rfl);all_goals (intro h;first|(exfalso;omega)|(simp only [h,decide_true,decide_false,not_true,not_false_iff])))|(apply aL_pK cxG (hsm);(iterate 2 (·simp (disch:=omega) only [go_sem,seval]<;>with_reducible rfl));(·simp only [go_sem]<;>with_reducible rfl);(·simp))|fail)
 all_goals try (first|exact True.intro|exact not_false|omega|(simp (disch:=omega) only [go_sem,seval]<;>omega))
 all_goals clear hsm
 all_goals try (simp (disch:=omega) only [go_sem,seval])
 all_goals try simp
 all_goals try (exact ⟨by kernel_rfl,by kernel_rfl⟩)
 all_goals clear hs ht hsb htb
 all_goals simp_all [Int.ofNat_inj]
theorem step_unique {s:List UInt8} {st st':Sp} (h:IsStep s st) (h':IsStep s st') (h1:st.k≠1) (h1':st'.k≠1):st=st':=(cand_is h h1).symm.trans (cand_is h' h1')
end
end Go.Am
