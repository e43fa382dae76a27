/- A script's text: script.Text. -/
import Derived.Test.YtodiaabcaahnjaaGreatDoorAmWalkE
import Derived.Test.YtodiaabcaahnjaaGreatDoorP07
import Derived.Test.YtodiaabcaahnjaaGreatDoorS17
import Derived.Test.YtodiaabcaahnjaaGreatDoorAmWalkF
set_option linter.unusedVariables false
set_option linter.unusedSimpArgs false
section
namespace Go.Am
open Go Go.Proofs
set_option maxHeartbeats 8000000
set_option maxRecDepth 100000
section
attribute [local irreducible] aC aL thenQ blockQ scopeQ ALoop AWp
def txt (ls:List (List UInt8)):List UInt8:=ls.flatMap fun x=>x++[10]
theorem txt_app (a b:List (List UInt8)):txt (a++b)=txt a++txt b:=by simp [txt]
theorem txt_take (ls:List (List UInt8)) (k:Nat) (h:k<ls.length):txt (ls.take (k+1))=txt (ls.take k)++(ls.getD k []++[10]):=by
 rw [List.take_succ_eq_append_getElem h,txt_app]
 simp [txt,List.getD,h]
theorem txt_len (n:Nat):∀ (ls:List (List UInt8)),(∀ x∈ls,x.length≤n)→(txt ls).length≤(n+1)*ls.length
 |[],_=>by simp [txt]
 |x::ls,h=>by
  have ih:=txt_len n ls fun y hy=>h y (List.mem_cons_of_mem _ hy)
  have h1:=h x (List.mem_cons_self ..)
  unfold txt at ih ⊢
  simp only [List.flatMap_cons,List.length_append,List.length_cons,List.length_nil,Nat.mul_succ]
  omega
def scT (s:Su) (l:List (Sp × Bool)):List UInt8:=txt (linesL s)++txt (l.map fun p=>lineS p.1)
theorem mayS_bl {s:Sp} (h:MayS s):s.b.length≤4096:=by
 rcases h with h|⟨_,h|h|h⟩
 ·rw [h.2.2.2.2];decide
 ·rw [h.2.2];decide
 ·rw [h.2];decide
 ·exact h.2.2.2
theorem lineS_len (s:Sp) (h:s.Ok) (hb:s.b.length≤9000):(lineS s).length≤20000:=by
 unfold lineS
 have h1:=ctx_len (op:=s.op) h.xw
 have h2:=numT_len [108,111,97,100] [s.a] (by simpa using h.aw)
 have h3:=numT_len [115,116,111,114,101] [s.a,s.w] (by simpa using ⟨h.aw,h.ww⟩)
 have h4:=hexl_length s.b
 have h5:=h.bl
 split
 ·have:=h.x6
  omega
 ·split
  ·simp at h2;omega
  ·split
   ·simp at h3;omega
   ·split
    ·simp [VERIFY]
    ·simp [VERIFY,h4];omega
theorem linesL_len (s:Su) (hs:s.Ok) (hm:MaySu s):∀ x∈linesL s,x.length≤200:=by
 intro x hx
 have hg:s.g.toNat<18446744073709551616:=by have:=hm.1;omega
 unfold linesL linesA at hx
 simp only [List.take_length,List.mem_cons,List.mem_append,List.mem_map] at hx
 rcases hx with rfl|rfl|rfl|⟨y,hy,rfl⟩|⟨y,hy,rfl⟩
 ·have:=numT_len GRAN [s.g.toNat] (by simpa using hg)
  simp [GRAN] at this ⊢;omega
 ·unfold modeT;split<;>simp
 ·have:=hexl_length s.m
  have:=hs.m32
  simp [digT,MASTER];omega
 ·have:=hexl_length y
  have:=hs.d32 y hy
  simp [digT,DRAW];omega
 ·have:=numT_len ENTR [y] (by simpa using hs.ew y hy)
  unfold entT
  simp [ENTR] at this ⊢;omega
theorem text_may (s:Sp) (hs:s.xs.length=6) (nl:Bool):APure cx 48 [.agg (spC s nl .any)] (.bool (!decide (MayS s))):=by
 have hm:=script_MayStep s hs nl
 generalize decide (MayS s)=r at *
 obtain ⟨k,op,xs,a,w,b⟩:=s
 obtain ⟨x0,x1,x2,x3,x4,x5,rfl⟩:=six hs
 simp only [spC_six] at *
 refine pure_fnK cxOk Tryz.func48 (fun _=>false) (fe48.q) (by kernel_rfl) (by dsimp only [Tryz.f48,go_sem,seval,liteO,Option.map,List.map];exact .mk _) ?_
 dsimp only [Tryz.f48,frame0,List.zipIdx,List.map,Nat.reduceAdd]
 try simp only [List.getElem?_toArray,List.getElem?_cons_succ,List.getElem?_cons_zero,Option.bind_some]
 repeat' (first|(apply aL_boxI;(case hg=>(simp (disch:=omega) only [go_sem,seval]));(case h=>(simp (disch:=omega) only [go_sem,seval]<;>with_reducible rfl));(case hf=>(simp only [go_sem]<;>with_reducible rfl));(case hs=>(simp (disch:=omega) only [go_sem,seval])))|refine aC_seq ?_|refine aC_reg rfl ?_|refine aC_ret ?_|refine thenQ_normal ?_|refine aL_nil ?_|(apply aL_step;(·exact True.intro);(iterate 2 (·simp (disch:=omega) only [go_sem,seval]<;>with_reducible rfl));(·simp only [go_sem]<;>with_reducible rfl))|(apply aL_pK cxG (hm);(iterate 2 (·simp (disch:=omega) only [go_sem,seval]<;>with_reducible rfl));(·simp only [go_sem]<;>with_reducible rfl);(·simp))|fail)
 all_goals try (first|exact True.intro|exact not_false|omega|(simp (disch:=omega) only [go_sem,seval]<;>omega))
 all_goals clear hm
 all_goals try (simp (disch:=omega) only [go_sem,seval])
 all_goals try simp
theorem index_steps (nl:Bool) (l:List (Sp × Bool)) (hx:∀ p∈l,p.1.xs.length=6) (hl:l.length≤1048576):∃ r:Int,(0≤r↔∃ p∈l,¬ MayS p.1) ∧
  APure cx 92 [.sl 11 nl (sts l) .any,.fn (.func 48) [] []] (.int .i64 r):=by
 have main:∀ r:Int,((r = -1∧∀ p∈l,MayS p.1)∨(∃ k,∃ h:k<l.length,r=(k:Int)∧¬ MayS l[k].1∧∀ p∈l.take k,MayS p.1)) →
   APure cx 92 [.sl 11 nl (sts l) .any,.fn (.func 48) [] []] (.int .i64 r):=by
  intro r hr
  have hyes:∀ k (h:k<l.length),¬ MayS l[k].1→(∀ p∈l.take k,MayS p.1)→r=(k:Int):=by
   intro k hk h1 h2
   rcases hr with ⟨_,h⟩|⟨q,hq,rfl,g1,g2⟩
   ·exact absurd (h _ (List.getElem_mem hk)) h1
   ·rcases Nat.lt_trichotomy q k with h|h|h
    ·exact absurd (h2 _ (List.mem_take_iff_getElem.2 ⟨q,by omega,rfl⟩)) g1
    ·rw [h]
    ·exact absurd (g2 _ (List.mem_take_iff_getElem.2 ⟨k,by omega,rfl⟩)) h1
  have hno:(∀ p∈l,MayS p.1)→r = -1:=by
   intro h
   rcases hr with ⟨e,_⟩|⟨q,hq,rfl,g1,_⟩
   ·exact e
   ·exact absurd (h _ (List.getElem_mem hq)) g1
  clear hr
  refine pure_fnK cxOk Tryz.func92 (fun _=>false) (fun _=>none) (by kernel_rfl) (by dsimp only [Tryz.f92,go_sem,seval,liteO,Option.map,List.map];exact .mk _) ?_
  dsimp only [Tryz.f92,frame0,List.zipIdx,List.map,Nat.reduceAdd]
  try simp only [List.getElem?_toArray,List.getElem?_cons_succ,List.getElem?_cons_zero,Option.bind_some]
  repeat' (first|refine aC_seq ?_|refine aC_reg rfl ?_|refine aC_block ?_|refine aC_loop ?_|refine thenQ_normal ?_|refine aL_nil ?_|(apply aL_step;(·exact True.intro);(iterate 2 (·simp (disch:=omega) only [go_sem,seval]<;>with_reducible rfl));(·simp only [go_sem]<;>with_reducible rfl))|fail)
  ·refine loop_rule (cxOk.wp _ _) (σ:=Nat) (fun k=>[(8,.int .i64 k),(7,.int .i64 l.length),(1,.fn (.func 48) [] []),(0,.sl 11 nl (sts l) .any)])
    (fun _=>[]) (fun k=>l.length-k) (fun k=>k≤l.length∧∀ p∈l.take k,MayS p.1) 0 (GStep.refl _ _) ⟨⟨Nat.zero_le _,by simp⟩,Sub.of_all (by simp [Fr.get,frame0]),rfl⟩ ?_
   rintro k ⟨hk,hJ⟩
   by_cases hlt:k<l.length
   ·have hgd:=getD_sts l k .any hlt
    have h6:=hx _ (List.getElem_mem hlt)
    have hm:=text_may l[k].1 h6 l[k].2
    have hy:=hyes k hlt
    have htk:l.take (k+1)=l.take k++[l[k]]:=List.take_succ_eq_append_getElem hlt
    clear hyes hno
    by_cases hM:MayS l[k].1
    case' pos =>
     rw [decide_eq_true hM] at hm
     have hJ':∀ p∈l.take (k+1),MayS p.1:=by
      rw [htk]
      intro c hc
      rcases List.mem_append.1 hc with h|h
      ·exact hJ c h
      ·rw [List.mem_singleton.1 h];exact hM
    case' neg =>
     rw [decide_eq_false hM] at hm
     rw [hy hM hJ]
    all_goals
    clear hy hM hJ htk
    generalize l[k]=p at *
    obtain ⟨⟨kk,op,xs,a,w,b⟩,nb⟩:=p
    simp only at h6 hgd hm
    obtain ⟨x0,x1,x2,x3,x4,x5,rfl⟩:=six h6
    simp only [spC_six,Bool.not_true,Bool.not_false] at hgd hm
    repeat' (first|refine aC_seq ?_|refine aC_reg rfl ?_|refine aC_block ?_|refine aC_skip ?_|refine aC_ret ?_|refine thenQ_normal ?_|refine blockQ_normal ?_|refine thenQ_ret ?_|refine blockQ_ret ?_|refine aL_nil ?_|(apply aL_step;(·exact True.intro);(iterate 2 (·simp (disch:=omega) only [go_sem,seval,hgd]<;>with_reducible rfl));(·simp only [go_sem]<;>with_reducible rfl))|(refine aC_condT ?_ ?_;(·simp (disch:=omega) only [go_sem,seval,hgd]))|(refine aC_condF ?_ ?_;(·simp (disch:=omega) only [go_sem,seval,hgd]))|(refine aC_condP (by simp (disch:=omega) only [go_sem,seval,hgd]<;>with_reducible rfl) ?_ ?_<;>(intro h;first|(exfalso;omega)|skip))|(apply aL_pure cxG (hm);(case hg=>(simp (disch:=omega) only [go_sem,seval,hgd]));(case hx=>(simp (disch:=omega) only [go_sem,seval,hgd]<;>with_reducible rfl));(case ha=>(simp (disch:=omega) only [go_sem,seval,hgd]<;>with_reducible rfl));(case he=>(simp only [go_sem]<;>with_reducible rfl));(case hcl=>(simp));(case hf=>(simp only [go_sem]<;>with_reducible rfl)))|fail)
    all_goals try (first|exact True.intro|exact not_false|omega|(simp (disch:=omega) only [go_sem,seval]<;>omega))
    all_goals clear hm
    all_goals try (exact ⟨k+1,⟨by omega,hJ'⟩,Sub.of_all (by simp [Fr.get]),rfl,by omega⟩)
    all_goals try (simp (disch:=omega) only [go_sem,seval])
    all_goals try simp
   ·have hk':k=l.length:=by omega
    subst hk'
    rw [hno (by rw [List.take_length] at hJ;exact hJ)]
    clear hyes hno
    repeat' (first|refine aC_seq ?_|refine aC_reg rfl ?_|refine aC_exit ?_|refine aC_ret ?_|refine thenQ_normal ?_|refine thenQ_exit ?_|refine blockQ_hit ?_|refine aL_nil ?_|(apply aL_step;(·exact True.intro);(iterate 2 (·simp (disch:=omega) only [go_sem,seval]<;>with_reducible rfl));(·simp only [go_sem]<;>with_reducible rfl))|(refine aC_condP (by simp (disch:=omega) only [go_sem,seval]<;>with_reducible rfl) ?_ ?_<;>(intro h;first|(exfalso;omega)|skip))|fail)
    all_goals try (first|exact True.intro|exact not_false|omega|(simp (disch:=omega) only [go_sem,seval]<;>omega))
    all_goals try (simp (disch:=omega) only [go_sem,seval])
    all_goals try simp
  all_goals first|trivial|omega
 by_cases h:∀ p∈l,MayS p.1
 ·exact ⟨-1,⟨fun h=>by omega,fun ⟨c,hc,hne⟩=>absurd (h c hc) hne⟩,main _ (.inl ⟨rfl,h⟩)⟩
 ·have:∃ k,∃ h:k<l.length,¬ MayS l[k].1∧∀ p∈l.take k,MayS p.1:=by
   clear main hl hx
   induction l with
   |nil=>exact absurd (fun c hc=>by cases hc) h
   |cons y l ih =>
    by_cases hy:MayS y.1
    ·obtain ⟨k,hk,h1,h2⟩:=ih (fun k=>h (fun c hc=>by
      rcases List.mem_cons.1 hc with rfl|hc
      ·exact hy
      ·exact k c hc))
     exact ⟨k+1,by simpa using hk,by simpa using h1,fun c hc=>by
      rw [List.take_succ_cons] at hc
      rcases List.mem_cons.1 hc with rfl|hc
      ·exact hy
      ·exact h2 c hc⟩
    ·exact ⟨0,by simp,by simpa using hy,fun c hc=>by simp at hc⟩
  obtain ⟨k,hk,h1,h2⟩:=this
  exact ⟨(k:Int),⟨fun _=>⟨_,List.getElem_mem hk,h1⟩,fun _=>by omega⟩,main _ (.inr ⟨k,hk,rfl,h1,h2⟩)⟩
theorem contains_steps (nl:Bool) (l:List (Sp × Bool)) (hx:∀ p∈l,p.1.xs.length=6) (hl:l.length≤1048576) :
  APure cx 47 [.sl 11 nl (sts l) .any,.fn (.func 48) [] []] (.bool (decide (∃ p∈l,¬ MayS p.1))):=by
 obtain ⟨r,h1,h2⟩:=index_steps nl l hx hl
 by_cases h:∃ p∈l,¬ MayS p.1
 case' pos=>rw [decide_eq_true h];have hr:=h1.2 h
 case' neg=>rw [decide_eq_false h];have hr:¬ 0≤r:=fun k=>h (h1.1 k)
 all_goals
 clear h h1
 refine pure_fnK cxOk Tryz.func47 (fun _=>false) (fun _=>none) (by kernel_rfl) (by dsimp only [Tryz.f47,go_sem,seval,liteO,Option.map,List.map];exact .mk _) ?_
 dsimp only [Tryz.f47,frame0,List.zipIdx,List.map,Nat.reduceAdd]
 try simp only [List.getElem?_toArray,List.getElem?_cons_succ,List.getElem?_cons_zero,Option.bind_some]
 repeat' (first|refine aC_seq ?_|refine aC_reg rfl ?_|refine aC_ret ?_|refine thenQ_normal ?_|refine aL_nil ?_|(apply aL_step;(·exact True.intro);(iterate 2 (·simp (disch:=omega) only [go_sem,seval]<;>with_reducible rfl));(·simp only [go_sem]<;>with_reducible rfl))|(apply aL_pK cxG (h2);(iterate 2 (·simp (disch:=omega) only [go_sem,seval]<;>with_reducible rfl));(·simp only [go_sem]<;>with_reducible rfl);(·simp))|fail)
 all_goals try (first|exact True.intro|exact not_false|omega|(simp (disch:=omega) only [go_sem,seval]<;>omega))
 all_goals (clear h2)
 all_goals try (simp (disch:=omega) only [go_sem,seval])
 all_goals try simp
 all_goals omega
theorem bld_len (S:St) (i g:Nat) (p:AVal) (bs:List UInt8) (hS:S[i]? = some (bld i g p bs)) (hl:bs.length≤1000000000000):ACall cx 50 [.ptr i 0] S (.int .i64 bs.length) S:=by
 unfold bld at hS
 refine acall_fnK cxOk Tryz.func50 (fun _=>false) (fe50.q) (by kernel_rfl) (by dsimp only [Tryz.f50,go_sem,seval,liteO,Option.map,List.map];exact .mk _) ?_
 dsimp only [Tryz.f50,frame0,List.zipIdx,List.map,Nat.reduceAdd]
 try simp only [List.getElem?_toArray,List.getElem?_cons_succ,List.getElem?_cons_zero,Option.bind_some]
 repeat' (first|refine aC_seq ?_|refine aC_reg rfl ?_|refine aC_ret ?_|refine thenQ_normal ?_|refine aL_nil ?_|(apply aL_step;(·exact True.intro);(iterate 2 (·simp (disch:=omega) only [go_sem,seval,hS]<;>with_reducible rfl));(·simp only [go_sem]<;>with_reducible rfl))|fail)
 all_goals try (first|exact True.intro|exact not_false|omega|(simp (disch:=omega) only [go_sem,seval]<;>omega))
 all_goals try (simp (disch:=omega) only [go_sem,seval,hS])
 all_goals try simp
end
end Go.Am
end
section
namespace Go.Am
open Go Go.Proofs
set_option maxHeartbeats 8000000
set_option maxRecDepth 100000
section
attribute [local irreducible] aC aL thenQ blockQ scopeQ ALoop AWp
theorem script_Text_long (s:Su) (hs:s.Ok) (nd ne ns:Bool) (l:List (Sp × Bool)) (hx:∀ p∈l,p.1.xs.length=6) (hl:l.length≤1048576) (h1:MaySu s) (h2:∀ p∈l,MayS p.1) (h6:65536<l.length) :
  APure cx 16 [.agg (scC s nd ne l ns)] (.tup [.str [],.int .i64 3]):=by
 have hms:=script_MaySetup s hs.m32 nd ne
 have hcn:=contains_steps ns l hx hl
 have hm32:=hs.m32
 clear hs
 rw [decide_eq_true h1] at hms
 rw [decide_eq_false (fun ⟨c,hc,k⟩=>k (h2 c hc))] at hcn
 clear h1 h2 hx
 obtain ⟨g,i,m,d,e⟩:=s
 unfold suC at hms
 unfold scC
 simp only at *
 refine pure_fnK cxOk Tryz.func16 (fun _=>false) (fe16.q) (by kernel_rfl) (by dsimp only [Tryz.f16,go_sem,seval,liteO,Option.map,List.map];exact .mk _) ?_
 dsimp only [Tryz.f16,frame0,List.zipIdx,List.map,Nat.reduceAdd]
 try simp only [List.getElem?_toArray,List.getElem?_cons_succ,List.getElem?_cons_zero,Option.bind_some]
 repeat' (first|(apply aL_boxI;(case hg=>(simp (disch:=first|omega|(simp only [go_sem];omega)) only [go_sem,seval,eq_self_iff_true,decide_true,decide_false,not_true_eq_false,not_false_eq_true,Bool.not_true,Bool.not_false]));(case h=>(simp (disch:=first|omega|(simp only [go_sem];omega)) only [go_sem,seval,eq_self_iff_true,decide_true,decide_false,not_true_eq_false,not_false_eq_true,Bool.not_true,Bool.not_false]<;>with_reducible rfl));(case hf=>(simp only [go_sem]<;>with_reducible rfl));(case hs=>(simp (disch:=first|omega|(simp only [go_sem];omega)) only [go_sem,seval,eq_self_iff_true,decide_true,decide_false,not_true_eq_false,not_false_eq_true,Bool.not_true,Bool.not_false])))|refine aC_seq ?_|refine aC_reg rfl ?_|refine aC_skip ?_|refine aC_ret ?_|refine thenQ_normal ?_|refine thenQ_ret ?_|refine aL_nil ?_|(apply aL_step;(·exact True.intro);(iterate 2 (·simp (disch:=first|omega|(simp only [go_sem];omega)) only [go_sem,seval,eq_self_iff_true,decide_true,decide_false,not_true_eq_false,not_false_eq_true,Bool.not_true,Bool.not_false]<;>with_reducible rfl));(·simp only [go_sem]<;>with_reducible rfl))|(refine aC_condF ?_ ?_;(·simp (disch:=first|omega|(simp only [go_sem];omega)) only [go_sem,seval,eq_self_iff_true,decide_true,decide_false,not_true_eq_false,not_false_eq_true,Bool.not_true,Bool.not_false]))|(refine aC_condP (by simp (disch:=first|omega|(simp only [go_sem];omega)) only [go_sem,seval,eq_self_iff_true,decide_true,decide_false,not_true_eq_false,not_false_eq_true,Bool.not_true,Bool.not_false]<;>with_reducible rfl) ?_ ?_<;>(intro h;first|(exfalso;omega)|skip))|(apply aL_pK cxG (hms);(iterate 2 (·simp (disch:=first|omega|(simp only [go_sem];omega)) only [go_sem,seval,eq_self_iff_true,decide_true,decide_false,not_true_eq_false,not_false_eq_true,Bool.not_true,Bool.not_false]<;>with_reducible rfl));(·simp only [go_sem]<;>with_reducible rfl);(·simp))|(apply aL_pK cxG (hcn);(iterate 2 (·simp (disch:=first|omega|(simp only [go_sem];omega)) only [go_sem,seval,eq_self_iff_true,decide_true,decide_false,not_true_eq_false,not_false_eq_true,Bool.not_true,Bool.not_false]<;>with_reducible rfl));(·simp only [go_sem]<;>with_reducible rfl);(·simp))|fail)
 all_goals try (first|exact True.intro|exact not_false|omega|(simp (disch:=first|omega|(simp only [go_sem];omega)) only [go_sem,seval]<;>omega))
 all_goals clear hms hcn
 all_goals try (simp (disch:=first|omega|(simp only [go_sem];omega)) only [go_sem,seval])
 all_goals try simp
def txS (ls:List (List UInt8)) (L:ABox) (k:Nat):St:=[bld 0 2 (if k=0 then .nilp else .ptr 0 0) (txt (ls.take k)),L,.grow (txt (ls.take k)).length 1 5]
theorem belB_bld {n i g:Nat} {p:AVal} {bs:List UInt8} (hp:bel n p=true) (hg:g<n):belB n (bld i g p bs)=true:=by
 simp [bld,belB,bels,hp,bel,belT,blt_iff,hg,bels_bytes']
theorem txS_bel {n:Nat} (hn:2<n) {L:ABox} (hb:belB n L=true) (ls:List (List UInt8)) (k:Nat):belS n (txS ls L k)=true:=by
 have h1:belB n (bld 0 2 (if k=0 then AVal.nilp else .ptr 0 0) (txt (ls.take k)))=true:=belB_bld (by split<;>simp [bel,blt_iff];omega) hn
 show (belB n _&&(belB n L&&(belB n _&&true)))=true
 rw [h1,hb];rfl
theorem text_lines (s:Su) (hs:s.Ok) (hm:MaySu s) (nd ne:Bool) (L:ABox) (hb:belB 3 L=true) (hb':belB 4 L=true)
  (hy:∀ (p:AVal) (bs x:List UInt8) (q:Nat),(p = .nilp∨p = .ptr 0 0)→bs.length≤10000000→x.length≤200 →
   AYield cx 1 [.str x] [bld 0 2 p bs,L,.grow bs.length 1 5,.grow q 1 9] (.bool true) [bld 0 2 (.ptr 0 0) (bs++(x++[10])),L,.grow (bs.length+(x++[10]).length) 1 5,.grow q 1 9]) :
  ACall cx 60 [.yld 1,.cptr (suC s nd ne)] [.cells [.nilp,.sl 1 true [] .any] 103,L] (.tup []) (txS (linesL s) L (linesL s).length):=by
 have hb4:∀ k,belS 3 (txS (linesL s) L k)=true:=fun k=>txS_bel (by decide) hb _ _
 have hb5:belS 4 (txS (linesL s) L 0)=true:=txS_bel (by decide) hb' _ _
 refine ACall.ownG 0 1 1 5 rfl rfl ?_
 refine script_Lines1 s hs hm nd ne 1 3 (by decide) (txS (linesL s) L) _ (linesL s).length rfl hb5 rfl (hb4 _) (Nat.le_refl _) (fun k hk=>?_) (.inl ⟨rfl,rfl⟩)
 have hll:=linesL_len s hs hm
 have hx:((linesL s).getD k []).length≤200:=by simp only [List.getD,hk,List.getElem?_eq_getElem,Option.getD_some];exact hll _ (List.getElem_mem hk)
 have hlen:(linesL s).length≤8200:=by
  have:=linesA_len s s.d.length s.e.length (Nat.le_refl _) (Nat.le_refl _)
  have h2:=hm.2
  unfold linesL
  omega
 have htl:=txt_len 200 ((linesL s).take k) (fun x hx=>hll x (List.mem_of_mem_take hx))
 have htk:((linesL s).take k).length≤8200:=by rw [List.length_take];omega
 have h:=hy (if k=0 then .nilp else .ptr 0 0) (txt ((linesL s).take k)) ((linesL s).getD k []) (linesL s).length (by split<;>simp) (by omega) hx
 have e1:txt ((linesL s).take (k+1))=txt ((linesL s).take k)++((linesL s).getD k []++[10]):=txt_take _ _ hk
 have e2:txS (linesL s) L (k+1)=[bld 0 2 (.ptr 0 0) (txt ((linesL s).take k)++((linesL s).getD k []++[10])),L,.grow ((txt ((linesL s).take k)).length+((linesL s).getD k []++[10]).length) 1 5]:=by
  unfold txS
  rw [e1,if_neg (by omega),List.length_append]
 rw [e2]
 exact h
theorem script_Text_ok (s:Su) (hs:s.Ok) (nd ne ns:Bool) (l:List (Sp × Bool)) (hx:∀ p∈l,p.1.Ok) (hl:l.length≤65536) (h1:MaySu s) (h2:∀ p∈l,MayS p.1) :
  APure cx 16 [.agg (scC s nd ne l ns)] (if 4194304<(scT s l).length then .tup [.str [],.int .i64 3] else .tup [.str (scT s l),.int .i64 0]):=by
 have hms:=script_MaySetup s hs.m32 nd ne
 have hcn:=contains_steps ns l (fun p hp=>(hx p hp).x6) (by omega)
 have hln:=script_Lines s nd ne
 have htx:=fun (L:ABox) (b1:belB 3 L=true) (b2:belB 4 L=true) hy=>text_lines s hs h1 nd ne L b1 b2 hy
 have hm32:=hs.m32
 have hls:3≤(linesL s).length:=by rw [show (linesL s).length=3+s.d.length+s.e.length from linesA_len s _ _ (Nat.le_refl _) (Nat.le_refl _)];omega
 have htL:(txt (linesL s)).length≤10000000:=by
  have:=txt_len 200 _ (linesL_len s hs h1)
  have h3:(linesL s).length=3+s.d.length+s.e.length:=linesA_len s _ _ (Nat.le_refl _) (Nat.le_refl _)
  have:=h1.2
  omega
 rw [decide_eq_true h1] at hms
 rw [decide_eq_false (fun ⟨c,hc,k⟩=>k (h2 c hc))] at hcn
 unfold scT
 have htxe:∀ L,txS (linesL s) L (linesL s).length=[bld 0 2 (.ptr 0 0) (txt (linesL s)),L,.grow (txt (linesL s)).length 1 5]:=fun L=>by
  unfold txS
  rw [List.take_length,if_neg (by omega)]
 simp only [htxe] at htx
 clear htxe
 have hgs:=fun k=>getD_sts l k .any
 generalize linesL s=LS at *
 clear hs h1
 obtain ⟨g,i,m,d,e⟩:=s
 unfold suC at hms hln htx
 unfold scC
 simp only at *
 refine pure_fnK cxOk Tryz.func16 (fun _=>false) (fe16.q) (by kernel_rfl) (by dsimp only [Tryz.f16,go_sem,seval,liteO,Option.map,List.map];exact .mk _) ?_
 dsimp only [Tryz.f16,frame0,List.zipIdx,List.map,Nat.reduceAdd]
 try simp only [List.getElem?_toArray,List.getElem?_cons_succ,List.getElem?_cons_zero,Option.bind_some]
 repeat' (first|(apply aL_boxI;(case hg=>(simp (disch:=first|omega|(simp only [go_sem];omega)) only [go_sem,seval,eq_self_iff_true,decide_true,decide_false,not_true_eq_false,not_false_eq_true,Bool.not_true,Bool.not_false]));(case h=>(simp (disch:=first|omega|(simp only [go_sem];omega)) only [go_sem,seval,eq_self_iff_true,decide_true,decide_false,not_true_eq_false,not_false_eq_true,Bool.not_true,Bool.not_false]<;>with_reducible rfl));(case hf=>(simp only [go_sem]<;>with_reducible rfl));(case hs=>(simp (disch:=first|omega|(simp only [go_sem];omega)) only [go_sem,seval,eq_self_iff_true,decide_true,decide_false,not_true_eq_false,not_false_eq_true,Bool.not_true,Bool.not_false])))|refine aC_seq ?_|refine aC_reg rfl ?_|refine aC_block ?_|refine aC_skip ?_|refine thenQ_normal ?_|refine aL_nil ?_|(apply aL_step;(·exact True.intro);(iterate 2 (·simp (disch:=first|omega|(simp only [go_sem];omega)) only [go_sem,seval,eq_self_iff_true,decide_true,decide_false,not_true_eq_false,not_false_eq_true,Bool.not_true,Bool.not_false]<;>with_reducible rfl));(·simp only [go_sem]<;>with_reducible rfl))|(refine aC_condF ?_ ?_;(·simp (disch:=first|omega|(simp only [go_sem];omega)) only [go_sem,seval,eq_self_iff_true,decide_true,decide_false,not_true_eq_false,not_false_eq_true,Bool.not_true,Bool.not_false]))|(refine aC_condP (by simp (disch:=first|omega|(simp only [go_sem];omega)) only [go_sem,seval,eq_self_iff_true,decide_true,decide_false,not_true_eq_false,not_false_eq_true,Bool.not_true,Bool.not_false]<;>with_reducible rfl) ?_ ?_<;>(intro h;first|(exfalso;omega)|skip))|(apply aL_pK cxG (hms);(iterate 2 (·simp (disch:=first|omega|(simp only [go_sem];omega)) only [go_sem,seval,eq_self_iff_true,decide_true,decide_false,not_true_eq_false,not_false_eq_true,Bool.not_true,Bool.not_false]<;>with_reducible rfl));(·simp only [go_sem]<;>with_reducible rfl);(·simp))|(apply aL_pK cxG (hcn);(iterate 2 (·simp (disch:=first|omega|(simp only [go_sem];omega)) only [go_sem,seval,eq_self_iff_true,decide_true,decide_false,not_true_eq_false,not_false_eq_true,Bool.not_true,Bool.not_false]<;>with_reducible rfl));(·simp only [go_sem]<;>with_reducible rfl);(·simp))|(apply aL_pK cxG (hln);(iterate 2 (·simp (disch:=first|omega|(simp only [go_sem];omega)) only [go_sem,seval,eq_self_iff_true,decide_true,decide_false,not_true_eq_false,not_false_eq_true,Bool.not_true,Bool.not_false]<;>with_reducible rfl));(·simp only [go_sem]<;>with_reducible rfl);(·simp))|fail)
 refine aC_rangeFnA (n:=3) [bld 0 2 (.ptr 0 0) (txt LS)] [.grow (txt LS).length 1 5] rfl rfl rfl (htx _ ?_ ?_ ?_) ?_ ?_
 ·simp [belB,belF,bel,bels,bels_append',bels_bytes',bels_dgs,bels_wl,bels_sts,belT,Nat.blt]
 ·simp [belB,belF,bel,bels,bels_append',bels_bytes',bels_dgs,bels_wl,bels_sts,belT,Nat.blt]
 ·intro p bs x q hp hbs hx2
  have hws:=fun LB:ABox=>write_string (S:=[bld 0 2 p bs,LB,.grow bs.length 1 5,.grow q 1 9]) (i:=0) (g:=2) (p:=p) (bs:=bs) (s:=x++[10]) hp rfl rfl (by simp;omega)
  simp only [List.set_cons_zero,List.set_cons_succ] at hws
  refine ayield_hand cxOk (p:=fun _=>false) (q:=fun _=>none) rfl rfl (by kernel_rfl) (by kernel_rfl) (by kernel_rfl) (by kernel_rfl) (by kernel_rfl) rfl rfl ?_
  dsimp only [putAll,lite,nextOf,Option.isNone,Bool.not_true,Bool.not_false,Bool.and_true,Bool.true_and,Bool.false_and,Bool.and_self,Bool.false_eq_true,if_false,if_true,↓reduceIte,liteO,List.map,Option.map,List.zipIdx,Nat.reduceAdd]
  try simp only [List.getElem?_toArray,List.getElem?_cons_succ,List.getElem?_cons_zero,Option.bind_some]
  clear hms hcn hln htx
  repeat' (first|refine aC_reg rfl ?_|refine aL_nil ?_|(apply aL_step;(·exact True.intro);(iterate 2 (·simp (disch:=first|omega|(simp only [go_sem];omega)) only [go_sem,seval]<;>with_reducible rfl));(·simp only [go_sem]<;>with_reducible rfl))|fail)
  refine ⟨rfl,rfl,?_⟩
  repeat' (first|refine aC_reg rfl ?_|refine aC_block ?_|refine blockQ_normal ?_|refine aL_nil ?_|(apply aL_step;(·exact True.intro);(iterate 2 (·simp (disch:=first|omega|(simp only [go_sem];omega)) only [go_sem,seval]<;>with_reducible rfl));(·simp only [go_sem]<;>with_reducible rfl))|(apply aL_aK ((hws _));(·rfl);(iterate 2 (·simp (disch:=first|omega|(simp only [go_sem];omega)) only [go_sem,seval]<;>with_reducible rfl));(·simp only [go_sem]<;>with_reducible rfl))|fail)
  all_goals first|exact ⟨rfl,rfl⟩|trivial|omega
 ·simp [belF,bel,bels,bels_append',bels_bytes',bels_dgs,bels_wl,bels_sts,belT,Nat.blt]
 ·intro Lx hLx
  simp only [List.cons_append,List.nil_append]
  clear hms hcn hln htx
  have hST:∀ k,(txt ((l.take k).map fun p=>lineS p.1)).length≤2000000000:=fun k=>by
   have h1:=txt_len 20000 ((l.take k).map fun p=>lineS p.1) (fun z hz=>by
    obtain ⟨p,hp,rfl⟩:=List.mem_map.1 hz
    exact lineS_len _ (hx p (List.mem_of_mem_take hp)) (by have:=mayS_bl (h2 p (List.mem_of_mem_take hp));omega))
   have h2:((l.take k).map fun p=>lineS p.1).length≤65536:=by rw [List.length_map,List.length_take];omega
   omega
  repeat' (first|refine aC_seq ?_|refine aC_reg rfl ?_|refine aC_block ?_|refine aC_loop ?_|refine thenQ_normal ?_|refine blockQ_normal ?_|refine aL_nil ?_|(apply aL_step;(·exact True.intro);(iterate 2 (·simp (disch:=first|omega|(simp only [go_sem];omega)) only [go_sem,seval]<;>with_reducible rfl));(·simp only [go_sem]<;>with_reducible rfl))|fail)
  ·refine loop_ruleD (cxOk.wp _ _) (cxG.wp _ _) (σ:=Nat) (fun k=>[(31,.int .i64 k),(30,.int .i64 l.length),(29,.sl 11 ns (sts l) .any),(4,.ptr 0 0)])
    (fun k=>[bld 0 2 (.ptr 0 0) (txt LS++txt ((l.take k).map fun p=>lineS p.1)),Lx,.grow (txt LS++txt ((l.take k).map fun p=>lineS p.1)).length 1 5]) (fun k=>l.length-k) (fun k=>k≤l.length)
    3 0 (GStep.refl _ _) ⟨Nat.zero_le _,Sub.of_all (by simp [Fr.get]),by simp [txt]⟩ (by simp)
    (fun k _=>⟨by
     show (belB 3 _&&(belB 3 Lx&&(belB 3 _&&true)))=true
     rw [belB_bld (by simp [bel,Nat.blt]) (by decide),hLx];rfl,by simp [belF,bel,bels_sts,belT,Nat.blt]⟩) ?_
   intro k hk
   have hST1:=hST k
   by_cases hlt:k<l.length
   ·have hgd:=hgs k hlt
    have hok:=hx _ (List.getElem_mem hlt)
    have hmy:=h2 _ (List.getElem_mem hlt)
    have hln:=script_line l[k].1 hok (fun h=>by
     rcases hmy with h'|⟨_,h'|h'|h'⟩
     ·exact h'.2.1
     ·omega
     ·omega
     ·omega) l[k].2
    have hll:=lineS_len _ hok (by have:=mayS_bl hmy;omega)
    have h6:=hok.x6
    have htk:txt ((l.take (k+1)).map fun p=>lineS p.1)=txt ((l.take k).map fun p=>lineS p.1)++(lineS l[k].1++[10]):=by
     rw [List.take_succ_eq_append_getElem hlt,List.map_append,txt_app]
     simp [txt]
    generalize hX':txt ((l.take (k+1)).map fun p=>lineS p.1)=X' at *
    generalize txt ((l.take k).map fun p=>lineS p.1)=X at *
    generalize lineS l[k].1=Y at *
    clear hx h2 hok hmy hgs hST
    generalize l[k]=p at *
    obtain ⟨⟨kk,op,xs,a,w,b⟩,nb⟩:=p
    simp only at h6 hgd hln
    obtain ⟨x0,x1,x2,x3,x4,x5,rfl⟩:=six h6
    simp only [spC_six] at hgd hln
    generalize hB:txt LS++X=B at *
    have hBl:B.length≤3000000000:=by rw [← hB,List.length_append];omega
    have hws:=fun LB:ABox=>write_string (S:=[bld 0 2 (.ptr 0 0) B,Lx,.grow B.length 1 5,LB]) (i:=0) (g:=2) (p:=.ptr 0 0) (bs:=B) (s:=Y++[10]) (.inr rfl) rfl rfl (by simp;omega)
    simp only [List.set_cons_zero,List.set_cons_succ] at hws
    repeat' (first|refine aC_seq ?_|refine aC_reg rfl ?_|refine aC_block ?_|refine aC_skip ?_|refine thenQ_normal ?_|refine blockQ_normal ?_|refine aL_nil ?_|(apply aL_step;(·exact True.intro);(iterate 2 (·simp (disch:=first|omega|(simp only [go_sem];omega)) only [go_sem,seval,hgd]<;>with_reducible rfl));(·simp only [go_sem]<;>with_reducible rfl))|(refine aC_condP (by simp (disch:=first|omega|(simp only [go_sem];omega)) only [go_sem,seval,hgd]<;>with_reducible rfl) ?_ ?_<;>(intro h;first|(exfalso;omega)|skip))|(apply aL_pK cxG (hln);(iterate 2 (·simp (disch:=first|omega|(simp only [go_sem];omega)) only [go_sem,seval,hgd]<;>with_reducible rfl));(·simp only [go_sem]<;>with_reducible rfl);(·simp))|(apply aL_aK ((hws _));(·rfl);(iterate 2 (·simp (disch:=first|omega|(simp only [go_sem];omega)) only [go_sem,seval,hgd]<;>with_reducible rfl));(·simp only [go_sem]<;>with_reducible rfl))|fail)
    all_goals try (first|exact True.intro|exact not_false|omega|(simp (disch:=first|omega|(simp only [go_sem];omega)) only [go_sem,seval]<;>omega))
    all_goals clear hln hws
    all_goals try (refine ⟨k+1,by omega,Sub.of_all (by simp [Fr.get]),?_,by omega⟩)
    ·have hBX:txt LS++(X++(Y++[10]))=B++(Y++[10]):=by rw [← List.append_assoc,hB]
     rw [hX',htk,hBX]
     simp [List.length_append]
    all_goals try (simp (disch:=first|omega|(simp only [go_sem];omega)) only [go_sem,seval])
    all_goals try simp
    all_goals try omega
   ·have hk2:k=l.length:=by omega
    subst hk2
    rw [List.take_length]
    clear hST hgs
    rw [List.take_length] at hST1
    have hBl:(txt LS++txt (l.map fun p=>lineS p.1)).length≤3000000000:=by rw [List.length_append];omega
    generalize txt LS++txt (l.map fun p=>lineS p.1)=B at *
    have hbl:=bld_len [bld 0 2 (.ptr 0 0) B,Lx,.grow B.length 1 5] 0 2 (.ptr 0 0) B rfl (by omega)
    have hstr:=bld_string bldOk (S:=[bld 0 2 (.ptr 0 0) B,Lx,.grow B.length 1 5]) (i:=0) (g:=2) (p:=.ptr 0 0) (bs:=B) rfl rfl
    by_cases h4:4194304<B.length
    case' pos=>rw [if_pos h4]
    case' neg=>rw [if_neg h4]
    all_goals
    repeat' (first|refine aC_seq ?_|refine aC_reg rfl ?_|refine aC_skip ?_|refine aC_exit ?_|refine aC_ret ?_|refine thenQ_normal ?_|refine thenQ_ret ?_|refine thenQ_exit ?_|refine blockQ_hit ?_|refine aL_nil ?_|(apply aL_step;(·exact True.intro);(iterate 2 (·simp (disch:=first|omega|(simp only [go_sem];omega)) only [go_sem,seval]<;>with_reducible rfl));(·simp only [go_sem]<;>with_reducible rfl))|(refine aC_condP (by simp (disch:=first|omega|(simp only [go_sem];omega)) only [go_sem,seval]<;>with_reducible rfl) ?_ ?_<;>(intro h;first|(exfalso;omega)|skip))|(apply aL_aK (hbl);(·rfl);(iterate 2 (·simp (disch:=first|omega|(simp only [go_sem];omega)) only [go_sem,seval]<;>with_reducible rfl));(·simp only [go_sem]<;>with_reducible rfl))|(apply aL_aK (hstr);(·rfl);(iterate 2 (·simp (disch:=first|omega|(simp only [go_sem];omega)) only [go_sem,seval]<;>with_reducible rfl));(·simp only [go_sem]<;>with_reducible rfl))|fail)
    all_goals try (first|exact True.intro|exact not_false|omega|(simp (disch:=first|omega|(simp only [go_sem];omega)) only [go_sem,seval]<;>omega))
    all_goals clear hbl hstr
    all_goals try (simp (disch:=first|omega|(simp only [go_sem];omega)) only [go_sem,seval])
    all_goals try simp
  all_goals first|trivial|omega
 all_goals first|trivial|omega
end
end Go.Am
end
